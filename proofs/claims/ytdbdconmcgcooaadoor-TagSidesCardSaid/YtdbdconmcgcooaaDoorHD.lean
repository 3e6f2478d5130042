/-
  Own text, printed by a program of mine (wip/gx): what functions of the program do, walked operation by operation.
-/
import Derived.Test.YtdbdconmcgcooaaDoorProg
import Derived.Test.YtdbdconmcgcooaaDoorGxAgg
import Derived.Test.YtdbdconmcgcooaaDoorTab
import Derived.Test.YtdbdconmcgcooaaDoorPlPack
import Derived.Test.YtdbdconmcgcooaaDoorPlSum
import Derived.Test.YtdbdconmcgcooaaDoorPlSha
import Derived.Test.YtdbdconmcgcooaaDoorPlShaSt
import Derived.Test.YtdbdconmcgcooaaDoorPlShaB
import Derived.Test.YtdbdconmcgcooaaDoorPlTag
import Derived.Test.YtdbdconmcgcooaaDoorGxTwo
import Derived.Test.YtdbdconmcgcooaaDoorTX
import Derived.Test.YtdbdconmcgcooaaDoorH0
set_option linter.unusedVariables false
namespace Go.Proofs.YtdbdconmcgcooaaDoor
open Go.RowKit Go.Gx
open Go.Plain
set_option maxHeartbeats 1000000 in
set_option maxRecDepth 20000 in
theorem tagSides_walk {w : World} {a b c d : List UInt8} {z : Int} (ha : a.length = 32) (hb : b.length = 32) (hc0 : c.length = 32) (hd : d.length = 32) (hrnd : Sl w (fun k => k = 1) u32v (some ⟨1, 0, none⟩) 64 64 rk) :
    Calls Tryd.prog 6 #[hv (a ++ b), hv (c ++ d), i64 z] w fun e w' => e = .returned (.bool true) ∧ Ch No w w' := by
  have hn1 : 1 < w.heap.size := hrnd.size (by omega) rfl
  have sides1 := sides_one (a := a) (b := b) (c := c) (d := d) (by omega)
  have sides4 := sides_four (x := b8i z) (a := a) (b := b) (c := c) (d := d) (by omega)
  have HC : Ch No w w := Ch.refl _ _
  refine enter' (args := [hv (a ++ b), hv (c ++ d), i64 z]) (n := 102) Tryd.func6 rfl rfl rfl ?_
  refine wc_seq ?_
  refine wc_region ?_
  refine wle rfl (e_box (cs := (List.map u8v (a ++ b)).toArray) rfl rfl rfl (fun w1 g3 hg3 hb3 hc hsz3 => ?_))
  have hzw1 := hc.size
  have HC := HC.tr hc
  have hrnd := hrnd.no hc
  have hge3 : w.heap.size ≤ g3 := by have := HC.size; omega
  have hltg3 := hb3.lt
  refine wle rfl (e_box (cs := (List.map u8v (c ++ d)).toArray) rfl rfl rfl (fun w2 g4 hg4 hb4 hc hsz4 => ?_))
  have hzw2 := hc.size
  have HC := HC.tr hc
  have hrnd := hrnd.no hc
  have hb3 := hb3.ch hc (fun h => h)
  have hge4 : w.heap.size ≤ g4 := by have := HC.size; omega
  have neg3_4 : g3 < g4 := by omega
  refine wl rfl rfl rfl (p_as rfl) ?_
  refine wl_nil ?_
  refine x_seq ?_
  refine wc_cut (fun e w' => ∃ (A16 : Option Addr) (c16 : Nat) (A22 : Option Addr) (c22 : Nat), e = [(2, i64 z), (3, .pointer (some ⟨g3, 0, none⟩)), (4, .pointer (some ⟨g4, 0, none⟩)), (6, .bool false), (7, .slice A16 (1 + [a, b].flatten.length) c16), (8, .slice A22 (1 + [c, d].flatten.length) c22)] ∧ Ch No w w' ∧ Sl w' (fun k => k = 1) u32v (some ⟨1, 0, none⟩) 64 64 rk ∧ Blk w' g3 37 (List.map u8v (a ++ b)).toArray ∧ Blk w' g4 37 (List.map u8v (c ++ d)).toArray ∧ Row w' (fun k => w.heap.size ≤ k) 5 1 (.slice A16 (1 + [a, b].flatten.length) c16) (1 + [a, b].flatten.length) (List.map u8v ([1] ++ [a, b].flatten)) ∧ Row w' (fun k => w.heap.size ≤ k) 5 1 (.slice A22 (1 + [c, d].flatten.length) c22) (1 + [c, d].flatten.length) (List.map u8v ([1] ++ [c, d].flatten))) ?_ ?_
  ·
    refine wc_draw (.st 0 0 (.st 1 0 (.st 2 0 (.st 3 0 (.st 6 0 (.st 7 0 (.st 8 0 (.st 9 0 (.alt (.st 4 2 (.alt (.st 5 2 (.st 10 2 (.st 11 2 (.st 12 0 (.st 13 0 .nil))))) (.st 10 2 (.st 5 2 (.st 11 2 (.st 12 0 (.st 13 0 .nil))))))) (.st 10 2 (.st 4 2 (.st 5 2 (.st 11 2 (.st 12 0 (.st 13 0 .nil))))))))))))))) 14 (by kernel_rfl) (by kernel_rfl) (by kernel_rfl) (by repeat (first | with_reducible exact pan_body | with_reducible apply pan_then | with_reducible apply pan_in)) (fun x => Ch No w2.drew x) (Ch.refl _ _) ?_
    obtain ⟨w3, ew3⟩ : ∃ x, x = w2.drew := ⟨_, rfl⟩
    rw [← ew3]
    have hc : Ch No w2 w3 := by rw [ew3]; exact Ch.drew _
    have hszw3 : w3.heap.size = w2.heap.size := by rw [ew3]; rfl
    clear ew3
    have hzw3 := hc.size
    have HC := HC.tr hc
    have hrnd := hrnd.no hc
    have hb3 := hb3.ch hc (fun h => h)
    have hb4 := hb4.ch hc (fun h => h)
    have hS : Ch No w3 w3 := Ch.refl _ _
    refine ws_p rfl rfl rfl rfl (p_ixA (j := 0) Tryd.underlying37 sz25 rfl rfl (by omega) (by omega) rfl) ?_
    have hS12 := sl_fst hb3 (ha)
    refine ws_p rfl rfl rfl rfl (p_slW (N := 31) Tryd.underlying25 sz5 rfl) ?_
    refine ws_p rfl rfl rfl rfl (p_ixA (j := 32) Tryd.underlying37 sz25 rfl rfl (by omega) (by omega) rfl) ?_
    have hS14 := sl_snd hb3 (ha) (hb)
    refine ws_p rfl rfl rfl rfl (p_slW (N := 31) Tryd.underlying25 sz5 rfl) ?_
    refine ws_p rfl rfl rfl rfl (p_ixA (j := 0) Tryd.underlying37 sz25 rfl rfl (by omega) (by omega) rfl) ?_
    have hS18 := sl_fst hb4 (hc0)
    refine ws_p rfl rfl rfl rfl (p_slW (N := 31) Tryd.underlying25 sz5 rfl) ?_
    refine ws_p rfl rfl rfl rfl (p_ixA (j := 32) Tryd.underlying37 sz25 rfl rfl (by omega) (by omega) rfl) ?_
    have hS20 := sl_snd hb4 (hc0) (hd)
    refine ws_p rfl rfl rfl rfl (p_slW (N := 31) Tryd.underlying25 sz5 rfl) ?_
    refine ws_alt ?_ ?_
    ·
      have hltg3 := hb3.lt
      have hltg4 := hb4.lt
      refine ws_e rfl rfl (e_bslV (E := 22) rfl rfl (fun _ => by kernel_rfl) (fun w8 g15 hg15 hb15 hc hsz15 => ⟨hc, ?_⟩))
      have hzw8 := hc.size
      have HC := HC.tr hc
      have hrnd := hrnd.no hc
      have hb3 := hb3.ch hc (fun h => h)
      have hb4 := hb4.ch hc (fun h => h)
      have hS12 := hS12.no hc
      have hS14 := hS14.no hc
      have hS18 := hS18.no hc
      have hS20 := hS20.no hc
      have hge15 : w.heap.size ≤ g15 := by have := HC.size; omega
      have hQ15 := SB.lit2 hb15 (hS12) (hS14)
      refine ws_narrow (S' := fun x => Ch No w8 x) (Ch.refl _ _) (fun x h => hc.tr h) ?_
      refine ws_alt ?_ ?_
      ·
        refine ws_e rfl rfl (e_call ent26 rfl rfl (tbytes_any (t := 1) (hQ15) (by omega) (by first | omega | (simp only [List.flatten_cons, List.flatten_nil, List.length_append, List.length_nil, List.length_cons]; omega))) ?_)
        rintro _ w9 ⟨A16, c16, rfl, hW16, hc⟩
        refine ⟨_, rfl, hc, ?_⟩
        have hzw9 := hc.size
        have HC := HC.tr hc
        have hrnd := hrnd.no hc
        have hb3 := hb3.ch hc (fun h => h)
        have hb4 := hb4.ch hc (fun h => h)
        have hS12 := hS12.no hc
        have hS14 := hS14.no hc
        have hS18 := hS18.no hc
        have hS20 := hS20.no hc
        have hQ15 := hQ15.no hc
        refine ws_narrow (S' := fun x => Ch No w9 x) (Ch.refl _ _) (fun x h => hc.tr h) ?_
        have hltg3 := hb3.lt
        have hltg4 := hb4.lt
        refine ws_e rfl rfl (e_bslV (E := 22) rfl rfl (fun _ => by kernel_rfl) (fun w10 g21 hg21 hb21 hc hsz21 => ⟨hc, ?_⟩))
        have hzw10 := hc.size
        have HC := HC.tr hc
        have hrnd := hrnd.no hc
        have hb3 := hb3.ch hc (fun h => h)
        have hb4 := hb4.ch hc (fun h => h)
        have hS12 := hS12.no hc
        have hS14 := hS14.no hc
        have hS18 := hS18.no hc
        have hS20 := hS20.no hc
        have hQ15 := hQ15.no hc
        have hW16 := hW16.after hc
        have hge21 : w.heap.size ≤ g21 := by have := HC.size; omega
        have hQ21 := SB.lit2 hb21 (hS18) (hS20)
        refine ws_narrow (S' := fun x => Ch No w10 x) (Ch.refl _ _) (fun x h => hc.tr h) ?_
        refine ws_e rfl rfl (e_call ent26 rfl rfl (tbytes_any (t := 1) (hQ21) (by omega) (by first | omega | (simp only [List.flatten_cons, List.flatten_nil, List.length_append, List.length_nil, List.length_cons]; omega))) ?_)
        rintro _ w11 ⟨A22, c22, rfl, hW22, hc⟩
        refine ⟨_, rfl, hc, ?_⟩
        have hzw11 := hc.size
        have HC := HC.tr hc
        have hrnd := hrnd.no hc
        have hb3 := hb3.ch hc (fun h => h)
        have hb4 := hb4.ch hc (fun h => h)
        have hS12 := hS12.no hc
        have hS14 := hS14.no hc
        have hS18 := hS18.no hc
        have hS20 := hS20.no hc
        have hQ15 := hQ15.no hc
        have hW16 := hW16.after hc
        have hQ21 := hQ21.no hc
        refine ws_narrow (S' := fun x => Ch No w11 x) (Ch.refl _ _) (fun x h => hc.tr h) ?_
        refine ws_p rfl rfl rfl rfl (p_as rfl) ?_
        refine ws_p rfl rfl rfl rfl (p_as rfl) ?_
        refine ws_n ?_
        exact x_meet (by repeat (first | exact trivial | refine ⟨rfl, ?_⟩)) ⟨A16, c16, A22, c22, rfl, HC, hrnd, hb3, hb4, hW16.mono (fun k _ hk => by first | omega | (dsimp only at *; omega)), hW22.mono (fun k _ hk => by first | omega | (dsimp only at *; omega))⟩
      ·
        have hltg3 := hb3.lt
        have hltg4 := hb4.lt
        refine ws_e rfl rfl (e_bslV (E := 22) rfl rfl (fun _ => by kernel_rfl) (fun w12 g21 hg21 hb21 hc hsz21 => ⟨hc, ?_⟩))
        have hzw12 := hc.size
        have HC := HC.tr hc
        have hrnd := hrnd.no hc
        have hb3 := hb3.ch hc (fun h => h)
        have hb4 := hb4.ch hc (fun h => h)
        have hS12 := hS12.no hc
        have hS14 := hS14.no hc
        have hS18 := hS18.no hc
        have hS20 := hS20.no hc
        have hQ15 := hQ15.no hc
        have hge21 : w.heap.size ≤ g21 := by have := HC.size; omega
        have hQ21 := SB.lit2 hb21 (hS18) (hS20)
        refine ws_narrow (S' := fun x => Ch No w12 x) (Ch.refl _ _) (fun x h => hc.tr h) ?_
        refine ws_e rfl rfl (e_call ent26 rfl rfl (tbytes_any (t := 1) (hQ15) (by omega) (by first | omega | (simp only [List.flatten_cons, List.flatten_nil, List.length_append, List.length_nil, List.length_cons]; omega))) ?_)
        rintro _ w13 ⟨A16, c16, rfl, hW16, hc⟩
        refine ⟨_, rfl, hc, ?_⟩
        have hzw13 := hc.size
        have HC := HC.tr hc
        have hrnd := hrnd.no hc
        have hb3 := hb3.ch hc (fun h => h)
        have hb4 := hb4.ch hc (fun h => h)
        have hS12 := hS12.no hc
        have hS14 := hS14.no hc
        have hS18 := hS18.no hc
        have hS20 := hS20.no hc
        have hQ15 := hQ15.no hc
        have hQ21 := hQ21.no hc
        refine ws_narrow (S' := fun x => Ch No w13 x) (Ch.refl _ _) (fun x h => hc.tr h) ?_
        refine ws_e rfl rfl (e_call ent26 rfl rfl (tbytes_any (t := 1) (hQ21) (by omega) (by first | omega | (simp only [List.flatten_cons, List.flatten_nil, List.length_append, List.length_nil, List.length_cons]; omega))) ?_)
        rintro _ w14 ⟨A22, c22, rfl, hW22, hc⟩
        refine ⟨_, rfl, hc, ?_⟩
        have hzw14 := hc.size
        have HC := HC.tr hc
        have hrnd := hrnd.no hc
        have hb3 := hb3.ch hc (fun h => h)
        have hb4 := hb4.ch hc (fun h => h)
        have hS12 := hS12.no hc
        have hS14 := hS14.no hc
        have hS18 := hS18.no hc
        have hS20 := hS20.no hc
        have hQ15 := hQ15.no hc
        have hQ21 := hQ21.no hc
        have hW16 := hW16.after hc
        refine ws_narrow (S' := fun x => Ch No w14 x) (Ch.refl _ _) (fun x h => hc.tr h) ?_
        refine ws_p rfl rfl rfl rfl (p_as rfl) ?_
        refine ws_p rfl rfl rfl rfl (p_as rfl) ?_
        refine ws_n ?_
        exact x_meet (by repeat (first | exact trivial | refine ⟨rfl, ?_⟩)) ⟨A16, c16, A22, c22, rfl, HC, hrnd, hb3, hb4, hW16.mono (fun k _ hk => by first | omega | (dsimp only at *; omega)), hW22.mono (fun k _ hk => by first | omega | (dsimp only at *; omega))⟩
    ·
      have hltg3 := hb3.lt
      have hltg4 := hb4.lt
      refine ws_e rfl rfl (e_bslV (E := 22) rfl rfl (fun _ => by kernel_rfl) (fun w15 g21 hg21 hb21 hc hsz21 => ⟨hc, ?_⟩))
      have hzw15 := hc.size
      have HC := HC.tr hc
      have hrnd := hrnd.no hc
      have hb3 := hb3.ch hc (fun h => h)
      have hb4 := hb4.ch hc (fun h => h)
      have hS12 := hS12.no hc
      have hS14 := hS14.no hc
      have hS18 := hS18.no hc
      have hS20 := hS20.no hc
      have hge21 : w.heap.size ≤ g21 := by have := HC.size; omega
      have hQ21 := SB.lit2 hb21 (hS18) (hS20)
      refine ws_narrow (S' := fun x => Ch No w15 x) (Ch.refl _ _) (fun x h => hc.tr h) ?_
      have hltg3 := hb3.lt
      have hltg4 := hb4.lt
      refine ws_e rfl rfl (e_bslV (E := 22) rfl rfl (fun _ => by kernel_rfl) (fun w16 g15 hg15 hb15 hc hsz15 => ⟨hc, ?_⟩))
      have hzw16 := hc.size
      have HC := HC.tr hc
      have hrnd := hrnd.no hc
      have hb3 := hb3.ch hc (fun h => h)
      have hb4 := hb4.ch hc (fun h => h)
      have hS12 := hS12.no hc
      have hS14 := hS14.no hc
      have hS18 := hS18.no hc
      have hS20 := hS20.no hc
      have hQ21 := hQ21.no hc
      have hge15 : w.heap.size ≤ g15 := by have := HC.size; omega
      have hQ15 := SB.lit2 hb15 (hS12) (hS14)
      refine ws_narrow (S' := fun x => Ch No w16 x) (Ch.refl _ _) (fun x h => hc.tr h) ?_
      refine ws_e rfl rfl (e_call ent26 rfl rfl (tbytes_any (t := 1) (hQ15) (by omega) (by first | omega | (simp only [List.flatten_cons, List.flatten_nil, List.length_append, List.length_nil, List.length_cons]; omega))) ?_)
      rintro _ w17 ⟨A16, c16, rfl, hW16, hc⟩
      refine ⟨_, rfl, hc, ?_⟩
      have hzw17 := hc.size
      have HC := HC.tr hc
      have hrnd := hrnd.no hc
      have hb3 := hb3.ch hc (fun h => h)
      have hb4 := hb4.ch hc (fun h => h)
      have hS12 := hS12.no hc
      have hS14 := hS14.no hc
      have hS18 := hS18.no hc
      have hS20 := hS20.no hc
      have hQ21 := hQ21.no hc
      have hQ15 := hQ15.no hc
      refine ws_narrow (S' := fun x => Ch No w17 x) (Ch.refl _ _) (fun x h => hc.tr h) ?_
      refine ws_e rfl rfl (e_call ent26 rfl rfl (tbytes_any (t := 1) (hQ21) (by omega) (by first | omega | (simp only [List.flatten_cons, List.flatten_nil, List.length_append, List.length_nil, List.length_cons]; omega))) ?_)
      rintro _ w18 ⟨A22, c22, rfl, hW22, hc⟩
      refine ⟨_, rfl, hc, ?_⟩
      have hzw18 := hc.size
      have HC := HC.tr hc
      have hrnd := hrnd.no hc
      have hb3 := hb3.ch hc (fun h => h)
      have hb4 := hb4.ch hc (fun h => h)
      have hS12 := hS12.no hc
      have hS14 := hS14.no hc
      have hS18 := hS18.no hc
      have hS20 := hS20.no hc
      have hQ21 := hQ21.no hc
      have hQ15 := hQ15.no hc
      have hW16 := hW16.after hc
      refine ws_narrow (S' := fun x => Ch No w18 x) (Ch.refl _ _) (fun x h => hc.tr h) ?_
      refine ws_p rfl rfl rfl rfl (p_as rfl) ?_
      refine ws_p rfl rfl rfl rfl (p_as rfl) ?_
      refine ws_n ?_
      exact x_meet (by repeat (first | exact trivial | refine ⟨rfl, ?_⟩)) ⟨A16, c16, A22, c22, rfl, HC, hrnd, hb3, hb4, hW16.mono (fun k _ hk => by first | omega | (dsimp only at *; omega)), hW22.mono (fun k _ hk => by first | omega | (dsimp only at *; omega))⟩
  ·
    rintro _ w19 ⟨A16, c16, A22, c22, rfl, HC, hrnd, hb3, hb4, hW16, hW22⟩
    have hzw19 := HC.size
    refine wc_cut (fun e w' => ∃ (A16 : Option Addr) (c16 : Nat) (A22 : Option Addr) (c22 : Nat) (A31 : Option Addr) (c31 : Nat) (A40 : Option Addr) (c40 : Nat), e = [(2, i64 z), (3, .pointer (some ⟨g3, 0, none⟩)), (4, .pointer (some ⟨g4, 0, none⟩)), (6, .bool false), (7, .slice A16 (1 + [a, b].flatten.length) c16), (8, .slice A22 (1 + [c, d].flatten.length) c22), (9, .slice A31 (1 + [[b8i z], a, b].flatten.length) c31), (10, .slice A40 (1 + [[b8i z], c, d].flatten.length) c40)] ∧ Ch No w w' ∧ Sl w' (fun k => k = 1) u32v (some ⟨1, 0, none⟩) 64 64 rk ∧ Blk w' g3 37 (List.map u8v (a ++ b)).toArray ∧ Blk w' g4 37 (List.map u8v (c ++ d)).toArray ∧ Row w' (fun k => w.heap.size ≤ k) 5 1 (.slice A16 (1 + [a, b].flatten.length) c16) (1 + [a, b].flatten.length) (List.map u8v ([1] ++ [a, b].flatten)) ∧ Row w' (fun k => w.heap.size ≤ k) 5 1 (.slice A22 (1 + [c, d].flatten.length) c22) (1 + [c, d].flatten.length) (List.map u8v ([1] ++ [c, d].flatten)) ∧ Row w' (fun k => w.heap.size ≤ k) 5 1 (.slice A31 (1 + [[b8i z], a, b].flatten.length) c31) (1 + [[b8i z], a, b].flatten.length) (List.map u8v ([4] ++ [[b8i z], a, b].flatten)) ∧ Row w' (fun k => w.heap.size ≤ k) 5 1 (.slice A40 (1 + [[b8i z], c, d].flatten.length) c40) (1 + [[b8i z], c, d].flatten.length) (List.map u8v ([4] ++ [[b8i z], c, d].flatten))) ?_ ?_
    ·
      refine wc_draw (.st 0 0 (.st 1 0 (.st 3 0 (.st 4 0 (.st 5 0 (.st 6 0 (.st 9 0 (.st 10 0 (.st 12 0 (.st 13 0 (.st 14 0 (.st 15 0 (.alt (.st 2 2 (.alt (.st 7 2 (.alt (.st 8 2 (.st 11 2 (.st 16 2 (.st 17 2 (.st 18 0 (.st 19 0 .nil)))))) (.st 11 2 (.alt (.st 8 2 (.st 16 2 (.st 17 2 (.st 18 0 (.st 19 0 .nil))))) (.st 16 2 (.st 8 2 (.st 17 2 (.st 18 0 (.st 19 0 .nil))))))))) (.st 11 2 (.alt (.st 7 2 (.alt (.st 8 2 (.st 16 2 (.st 17 2 (.st 18 0 (.st 19 0 .nil))))) (.st 16 2 (.st 8 2 (.st 17 2 (.st 18 0 (.st 19 0 .nil))))))) (.st 16 2 (.st 7 2 (.st 8 2 (.st 17 2 (.st 18 0 (.st 19 0 .nil)))))))))) (.st 11 2 (.alt (.st 2 2 (.alt (.st 7 2 (.alt (.st 8 2 (.st 16 2 (.st 17 2 (.st 18 0 (.st 19 0 .nil))))) (.st 16 2 (.st 8 2 (.st 17 2 (.st 18 0 (.st 19 0 .nil))))))) (.st 16 2 (.st 7 2 (.st 8 2 (.st 17 2 (.st 18 0 (.st 19 0 .nil)))))))) (.st 16 2 (.st 2 2 (.st 7 2 (.st 8 2 (.st 17 2 (.st 18 0 (.st 19 0 .nil)))))))))))))))))))))) 20 (by kernel_rfl) (by kernel_rfl) (by kernel_rfl) (by repeat (first | with_reducible exact pan_body | with_reducible apply pan_then | with_reducible apply pan_in)) (fun x => Ch No w19.drew x) (Ch.refl _ _) ?_
      obtain ⟨w20, ew20⟩ : ∃ x, x = w19.drew := ⟨_, rfl⟩
      rw [← ew20]
      have hc : Ch No w19 w20 := by rw [ew20]; exact Ch.drew _
      have hszw20 : w20.heap.size = w19.heap.size := by rw [ew20]; rfl
      clear ew20
      have hzw20 := hc.size
      have HC := HC.tr hc
      have hrnd := hrnd.no hc
      have hb3 := hb3.ch hc (fun h => h)
      have hb4 := hb4.ch hc (fun h => h)
      have hW16 := hW16.no hc
      have hW22 := hW22.no hc
      have hS : Ch No w20 w20 := Ch.refl _ _
      refine ws_p rfl rfl rfl rfl (p_mv rfl) ?_
      refine ws_p rfl rfl rfl rfl (p_conv Tryd.underlying3 Tryd.underlying5 rfl (wrap_b8i _)) ?_
      refine ws_p rfl rfl rfl rfl (p_ixA (j := 0) Tryd.underlying37 sz25 rfl rfl (by omega) (by omega) rfl) ?_
      have hS27 := sl_fst hb3 (ha)
      refine ws_p rfl rfl rfl rfl (p_slW (N := 31) Tryd.underlying25 sz5 rfl) ?_
      refine ws_p rfl rfl rfl rfl (p_ixA (j := 32) Tryd.underlying37 sz25 rfl rfl (by omega) (by omega) rfl) ?_
      have hS29 := sl_snd hb3 (ha) (hb)
      refine ws_p rfl rfl rfl rfl (p_slW (N := 31) Tryd.underlying25 sz5 rfl) ?_
      refine ws_p rfl rfl rfl rfl (p_mv rfl) ?_
      refine ws_p rfl rfl rfl rfl (p_conv Tryd.underlying3 Tryd.underlying5 rfl (wrap_b8i _)) ?_
      refine ws_p rfl rfl rfl rfl (p_ixA (j := 0) Tryd.underlying37 sz25 rfl rfl (by omega) (by omega) rfl) ?_
      have hS36 := sl_fst hb4 (hc0)
      refine ws_p rfl rfl rfl rfl (p_slW (N := 31) Tryd.underlying25 sz5 rfl) ?_
      refine ws_p rfl rfl rfl rfl (p_ixA (j := 32) Tryd.underlying37 sz25 rfl rfl (by omega) (by omega) rfl) ?_
      have hS38 := sl_snd hb4 (hc0) (hd)
      refine ws_p rfl rfl rfl rfl (p_slW (N := 31) Tryd.underlying25 sz5 rfl) ?_
      refine ws_alt ?_ ?_
      ·
        have hltg3 := hb3.lt
        have hltg4 := hb4.lt
        refine ws_e rfl rfl (e_bslV (E := 5) rfl rfl (fun _ => by kernel_rfl) (fun w25 g25 hg25 hb25 hc hsz25 => ⟨hc, ?_⟩))
        have hzw25 := hc.size
        have HC := HC.tr hc
        have hrnd := hrnd.no hc
        have hb3 := hb3.ch hc (fun h => h)
        have hb4 := hb4.ch hc (fun h => h)
        have hW16 := hW16.after hc
        have hW22 := hW22.after hc
        have hS27 := hS27.no hc
        have hS29 := hS29.no hc
        have hS36 := hS36.no hc
        have hS38 := hS38.no hc
        have hge25 : w.heap.size ≤ g25 := by have := HC.size; omega
        have hS25 := Sl.lit1 (f := u8v) hb25
        refine ws_narrow (S' := fun x => Ch No w25 x) (Ch.refl _ _) (fun x h => hc.tr h) ?_
        refine ws_alt ?_ ?_
        ·
          have hltg3 := hb3.lt
          have hltg4 := hb4.lt
          refine ws_e rfl rfl (e_bslV (E := 22) rfl rfl (fun _ => by kernel_rfl) (fun w26 g30 hg30 hb30 hc hsz30 => ⟨hc, ?_⟩))
          have hzw26 := hc.size
          have HC := HC.tr hc
          have hrnd := hrnd.no hc
          have hb3 := hb3.ch hc (fun h => h)
          have hb4 := hb4.ch hc (fun h => h)
          have hW16 := hW16.after hc
          have hW22 := hW22.after hc
          have hS27 := hS27.no hc
          have hS29 := hS29.no hc
          have hS36 := hS36.no hc
          have hS38 := hS38.no hc
          have hS25 := hS25.no hc
          have hge30 : w.heap.size ≤ g30 := by have := HC.size; omega
          have hQ30 := SB.lit3 hb30 (hS25) (hS27) (hS29)
          refine ws_narrow (S' := fun x => Ch No w26 x) (Ch.refl _ _) (fun x h => hc.tr h) ?_
          refine ws_alt ?_ ?_
          ·
            refine ws_e rfl rfl (e_call ent26 rfl rfl (tbytes_any (t := 4) (hQ30) (by omega) (by first | omega | (simp only [List.flatten_cons, List.flatten_nil, List.length_append, List.length_nil, List.length_cons]; omega))) ?_)
            rintro _ w27 ⟨A31, c31, rfl, hW31, hc⟩
            refine ⟨_, rfl, hc, ?_⟩
            have hzw27 := hc.size
            have HC := HC.tr hc
            have hrnd := hrnd.no hc
            have hb3 := hb3.ch hc (fun h => h)
            have hb4 := hb4.ch hc (fun h => h)
            have hW16 := hW16.after hc
            have hW22 := hW22.after hc
            have hS27 := hS27.no hc
            have hS29 := hS29.no hc
            have hS36 := hS36.no hc
            have hS38 := hS38.no hc
            have hS25 := hS25.no hc
            have hQ30 := hQ30.no hc
            refine ws_narrow (S' := fun x => Ch No w27 x) (Ch.refl _ _) (fun x h => hc.tr h) ?_
            have hltg3 := hb3.lt
            have hltg4 := hb4.lt
            refine ws_e rfl rfl (e_bslV (E := 5) rfl rfl (fun _ => by kernel_rfl) (fun w28 g34 hg34 hb34 hc hsz34 => ⟨hc, ?_⟩))
            have hzw28 := hc.size
            have HC := HC.tr hc
            have hrnd := hrnd.no hc
            have hb3 := hb3.ch hc (fun h => h)
            have hb4 := hb4.ch hc (fun h => h)
            have hW16 := hW16.after hc
            have hW22 := hW22.after hc
            have hS27 := hS27.no hc
            have hS29 := hS29.no hc
            have hS36 := hS36.no hc
            have hS38 := hS38.no hc
            have hS25 := hS25.no hc
            have hQ30 := hQ30.no hc
            have hW31 := hW31.after hc
            have hge34 : w.heap.size ≤ g34 := by have := HC.size; omega
            have hS34 := Sl.lit1 (f := u8v) hb34
            refine ws_narrow (S' := fun x => Ch No w28 x) (Ch.refl _ _) (fun x h => hc.tr h) ?_
            have hltg3 := hb3.lt
            have hltg4 := hb4.lt
            refine ws_e rfl rfl (e_bslV (E := 22) rfl rfl (fun _ => by kernel_rfl) (fun w29 g39 hg39 hb39 hc hsz39 => ⟨hc, ?_⟩))
            have hzw29 := hc.size
            have HC := HC.tr hc
            have hrnd := hrnd.no hc
            have hb3 := hb3.ch hc (fun h => h)
            have hb4 := hb4.ch hc (fun h => h)
            have hW16 := hW16.after hc
            have hW22 := hW22.after hc
            have hS27 := hS27.no hc
            have hS29 := hS29.no hc
            have hS36 := hS36.no hc
            have hS38 := hS38.no hc
            have hS25 := hS25.no hc
            have hQ30 := hQ30.no hc
            have hW31 := hW31.after hc
            have hS34 := hS34.no hc
            have hge39 : w.heap.size ≤ g39 := by have := HC.size; omega
            have hQ39 := SB.lit3 hb39 (hS34) (hS36) (hS38)
            refine ws_narrow (S' := fun x => Ch No w29 x) (Ch.refl _ _) (fun x h => hc.tr h) ?_
            refine ws_e rfl rfl (e_call ent26 rfl rfl (tbytes_any (t := 4) (hQ39) (by omega) (by first | omega | (simp only [List.flatten_cons, List.flatten_nil, List.length_append, List.length_nil, List.length_cons]; omega))) ?_)
            rintro _ w30 ⟨A40, c40, rfl, hW40, hc⟩
            refine ⟨_, rfl, hc, ?_⟩
            have hzw30 := hc.size
            have HC := HC.tr hc
            have hrnd := hrnd.no hc
            have hb3 := hb3.ch hc (fun h => h)
            have hb4 := hb4.ch hc (fun h => h)
            have hW16 := hW16.after hc
            have hW22 := hW22.after hc
            have hS27 := hS27.no hc
            have hS29 := hS29.no hc
            have hS36 := hS36.no hc
            have hS38 := hS38.no hc
            have hS25 := hS25.no hc
            have hQ30 := hQ30.no hc
            have hW31 := hW31.after hc
            have hS34 := hS34.no hc
            have hQ39 := hQ39.no hc
            refine ws_narrow (S' := fun x => Ch No w30 x) (Ch.refl _ _) (fun x h => hc.tr h) ?_
            refine ws_p rfl rfl rfl rfl (p_as rfl) ?_
            refine ws_p rfl rfl rfl rfl (p_as rfl) ?_
            refine ws_n ?_
            exact x_meet (by repeat (first | exact trivial | refine ⟨rfl, ?_⟩)) ⟨A16, c16, A22, c22, A31, c31, A40, c40, rfl, HC, hrnd, hb3, hb4, hW16.mono (fun k _ hk => by first | omega | (dsimp only at *; omega)), hW22.mono (fun k _ hk => by first | omega | (dsimp only at *; omega)), hW31.mono (fun k _ hk => by first | omega | (dsimp only at *; omega)), hW40.mono (fun k _ hk => by first | omega | (dsimp only at *; omega))⟩
          ·
            have hltg3 := hb3.lt
            have hltg4 := hb4.lt
            refine ws_e rfl rfl (e_bslV (E := 5) rfl rfl (fun _ => by kernel_rfl) (fun w31 g34 hg34 hb34 hc hsz34 => ⟨hc, ?_⟩))
            have hzw31 := hc.size
            have HC := HC.tr hc
            have hrnd := hrnd.no hc
            have hb3 := hb3.ch hc (fun h => h)
            have hb4 := hb4.ch hc (fun h => h)
            have hW16 := hW16.after hc
            have hW22 := hW22.after hc
            have hS27 := hS27.no hc
            have hS29 := hS29.no hc
            have hS36 := hS36.no hc
            have hS38 := hS38.no hc
            have hS25 := hS25.no hc
            have hQ30 := hQ30.no hc
            have hge34 : w.heap.size ≤ g34 := by have := HC.size; omega
            have hS34 := Sl.lit1 (f := u8v) hb34
            refine ws_narrow (S' := fun x => Ch No w31 x) (Ch.refl _ _) (fun x h => hc.tr h) ?_
            refine ws_alt ?_ ?_
            ·
              refine ws_e rfl rfl (e_call ent26 rfl rfl (tbytes_any (t := 4) (hQ30) (by omega) (by first | omega | (simp only [List.flatten_cons, List.flatten_nil, List.length_append, List.length_nil, List.length_cons]; omega))) ?_)
              rintro _ w32 ⟨A31, c31, rfl, hW31, hc⟩
              refine ⟨_, rfl, hc, ?_⟩
              have hzw32 := hc.size
              have HC := HC.tr hc
              have hrnd := hrnd.no hc
              have hb3 := hb3.ch hc (fun h => h)
              have hb4 := hb4.ch hc (fun h => h)
              have hW16 := hW16.after hc
              have hW22 := hW22.after hc
              have hS27 := hS27.no hc
              have hS29 := hS29.no hc
              have hS36 := hS36.no hc
              have hS38 := hS38.no hc
              have hS25 := hS25.no hc
              have hQ30 := hQ30.no hc
              have hS34 := hS34.no hc
              refine ws_narrow (S' := fun x => Ch No w32 x) (Ch.refl _ _) (fun x h => hc.tr h) ?_
              have hltg3 := hb3.lt
              have hltg4 := hb4.lt
              refine ws_e rfl rfl (e_bslV (E := 22) rfl rfl (fun _ => by kernel_rfl) (fun w33 g39 hg39 hb39 hc hsz39 => ⟨hc, ?_⟩))
              have hzw33 := hc.size
              have HC := HC.tr hc
              have hrnd := hrnd.no hc
              have hb3 := hb3.ch hc (fun h => h)
              have hb4 := hb4.ch hc (fun h => h)
              have hW16 := hW16.after hc
              have hW22 := hW22.after hc
              have hS27 := hS27.no hc
              have hS29 := hS29.no hc
              have hS36 := hS36.no hc
              have hS38 := hS38.no hc
              have hS25 := hS25.no hc
              have hQ30 := hQ30.no hc
              have hS34 := hS34.no hc
              have hW31 := hW31.after hc
              have hge39 : w.heap.size ≤ g39 := by have := HC.size; omega
              have hQ39 := SB.lit3 hb39 (hS34) (hS36) (hS38)
              refine ws_narrow (S' := fun x => Ch No w33 x) (Ch.refl _ _) (fun x h => hc.tr h) ?_
              refine ws_e rfl rfl (e_call ent26 rfl rfl (tbytes_any (t := 4) (hQ39) (by omega) (by first | omega | (simp only [List.flatten_cons, List.flatten_nil, List.length_append, List.length_nil, List.length_cons]; omega))) ?_)
              rintro _ w34 ⟨A40, c40, rfl, hW40, hc⟩
              refine ⟨_, rfl, hc, ?_⟩
              have hzw34 := hc.size
              have HC := HC.tr hc
              have hrnd := hrnd.no hc
              have hb3 := hb3.ch hc (fun h => h)
              have hb4 := hb4.ch hc (fun h => h)
              have hW16 := hW16.after hc
              have hW22 := hW22.after hc
              have hS27 := hS27.no hc
              have hS29 := hS29.no hc
              have hS36 := hS36.no hc
              have hS38 := hS38.no hc
              have hS25 := hS25.no hc
              have hQ30 := hQ30.no hc
              have hS34 := hS34.no hc
              have hW31 := hW31.after hc
              have hQ39 := hQ39.no hc
              refine ws_narrow (S' := fun x => Ch No w34 x) (Ch.refl _ _) (fun x h => hc.tr h) ?_
              refine ws_p rfl rfl rfl rfl (p_as rfl) ?_
              refine ws_p rfl rfl rfl rfl (p_as rfl) ?_
              refine ws_n ?_
              exact x_meet (by repeat (first | exact trivial | refine ⟨rfl, ?_⟩)) ⟨A16, c16, A22, c22, A31, c31, A40, c40, rfl, HC, hrnd, hb3, hb4, hW16.mono (fun k _ hk => by first | omega | (dsimp only at *; omega)), hW22.mono (fun k _ hk => by first | omega | (dsimp only at *; omega)), hW31.mono (fun k _ hk => by first | omega | (dsimp only at *; omega)), hW40.mono (fun k _ hk => by first | omega | (dsimp only at *; omega))⟩
            ·
              have hltg3 := hb3.lt
              have hltg4 := hb4.lt
              refine ws_e rfl rfl (e_bslV (E := 22) rfl rfl (fun _ => by kernel_rfl) (fun w35 g39 hg39 hb39 hc hsz39 => ⟨hc, ?_⟩))
              have hzw35 := hc.size
              have HC := HC.tr hc
              have hrnd := hrnd.no hc
              have hb3 := hb3.ch hc (fun h => h)
              have hb4 := hb4.ch hc (fun h => h)
              have hW16 := hW16.after hc
              have hW22 := hW22.after hc
              have hS27 := hS27.no hc
              have hS29 := hS29.no hc
              have hS36 := hS36.no hc
              have hS38 := hS38.no hc
              have hS25 := hS25.no hc
              have hQ30 := hQ30.no hc
              have hS34 := hS34.no hc
              have hge39 : w.heap.size ≤ g39 := by have := HC.size; omega
              have hQ39 := SB.lit3 hb39 (hS34) (hS36) (hS38)
              refine ws_narrow (S' := fun x => Ch No w35 x) (Ch.refl _ _) (fun x h => hc.tr h) ?_
              refine ws_e rfl rfl (e_call ent26 rfl rfl (tbytes_any (t := 4) (hQ30) (by omega) (by first | omega | (simp only [List.flatten_cons, List.flatten_nil, List.length_append, List.length_nil, List.length_cons]; omega))) ?_)
              rintro _ w36 ⟨A31, c31, rfl, hW31, hc⟩
              refine ⟨_, rfl, hc, ?_⟩
              have hzw36 := hc.size
              have HC := HC.tr hc
              have hrnd := hrnd.no hc
              have hb3 := hb3.ch hc (fun h => h)
              have hb4 := hb4.ch hc (fun h => h)
              have hW16 := hW16.after hc
              have hW22 := hW22.after hc
              have hS27 := hS27.no hc
              have hS29 := hS29.no hc
              have hS36 := hS36.no hc
              have hS38 := hS38.no hc
              have hS25 := hS25.no hc
              have hQ30 := hQ30.no hc
              have hS34 := hS34.no hc
              have hQ39 := hQ39.no hc
              refine ws_narrow (S' := fun x => Ch No w36 x) (Ch.refl _ _) (fun x h => hc.tr h) ?_
              refine ws_e rfl rfl (e_call ent26 rfl rfl (tbytes_any (t := 4) (hQ39) (by omega) (by first | omega | (simp only [List.flatten_cons, List.flatten_nil, List.length_append, List.length_nil, List.length_cons]; omega))) ?_)
              rintro _ w37 ⟨A40, c40, rfl, hW40, hc⟩
              refine ⟨_, rfl, hc, ?_⟩
              have hzw37 := hc.size
              have HC := HC.tr hc
              have hrnd := hrnd.no hc
              have hb3 := hb3.ch hc (fun h => h)
              have hb4 := hb4.ch hc (fun h => h)
              have hW16 := hW16.after hc
              have hW22 := hW22.after hc
              have hS27 := hS27.no hc
              have hS29 := hS29.no hc
              have hS36 := hS36.no hc
              have hS38 := hS38.no hc
              have hS25 := hS25.no hc
              have hQ30 := hQ30.no hc
              have hS34 := hS34.no hc
              have hQ39 := hQ39.no hc
              have hW31 := hW31.after hc
              refine ws_narrow (S' := fun x => Ch No w37 x) (Ch.refl _ _) (fun x h => hc.tr h) ?_
              refine ws_p rfl rfl rfl rfl (p_as rfl) ?_
              refine ws_p rfl rfl rfl rfl (p_as rfl) ?_
              refine ws_n ?_
              exact x_meet (by repeat (first | exact trivial | refine ⟨rfl, ?_⟩)) ⟨A16, c16, A22, c22, A31, c31, A40, c40, rfl, HC, hrnd, hb3, hb4, hW16.mono (fun k _ hk => by first | omega | (dsimp only at *; omega)), hW22.mono (fun k _ hk => by first | omega | (dsimp only at *; omega)), hW31.mono (fun k _ hk => by first | omega | (dsimp only at *; omega)), hW40.mono (fun k _ hk => by first | omega | (dsimp only at *; omega))⟩
        ·
          have hltg3 := hb3.lt
          have hltg4 := hb4.lt
          refine ws_e rfl rfl (e_bslV (E := 5) rfl rfl (fun _ => by kernel_rfl) (fun w38 g34 hg34 hb34 hc hsz34 => ⟨hc, ?_⟩))
          have hzw38 := hc.size
          have HC := HC.tr hc
          have hrnd := hrnd.no hc
          have hb3 := hb3.ch hc (fun h => h)
          have hb4 := hb4.ch hc (fun h => h)
          have hW16 := hW16.after hc
          have hW22 := hW22.after hc
          have hS27 := hS27.no hc
          have hS29 := hS29.no hc
          have hS36 := hS36.no hc
          have hS38 := hS38.no hc
          have hS25 := hS25.no hc
          have hge34 : w.heap.size ≤ g34 := by have := HC.size; omega
          have hS34 := Sl.lit1 (f := u8v) hb34
          refine ws_narrow (S' := fun x => Ch No w38 x) (Ch.refl _ _) (fun x h => hc.tr h) ?_
          refine ws_alt ?_ ?_
          ·
            have hltg3 := hb3.lt
            have hltg4 := hb4.lt
            refine ws_e rfl rfl (e_bslV (E := 22) rfl rfl (fun _ => by kernel_rfl) (fun w39 g30 hg30 hb30 hc hsz30 => ⟨hc, ?_⟩))
            have hzw39 := hc.size
            have HC := HC.tr hc
            have hrnd := hrnd.no hc
            have hb3 := hb3.ch hc (fun h => h)
            have hb4 := hb4.ch hc (fun h => h)
            have hW16 := hW16.after hc
            have hW22 := hW22.after hc
            have hS27 := hS27.no hc
            have hS29 := hS29.no hc
            have hS36 := hS36.no hc
            have hS38 := hS38.no hc
            have hS25 := hS25.no hc
            have hS34 := hS34.no hc
            have hge30 : w.heap.size ≤ g30 := by have := HC.size; omega
            have hQ30 := SB.lit3 hb30 (hS25) (hS27) (hS29)
            refine ws_narrow (S' := fun x => Ch No w39 x) (Ch.refl _ _) (fun x h => hc.tr h) ?_
            refine ws_alt ?_ ?_
            ·
              refine ws_e rfl rfl (e_call ent26 rfl rfl (tbytes_any (t := 4) (hQ30) (by omega) (by first | omega | (simp only [List.flatten_cons, List.flatten_nil, List.length_append, List.length_nil, List.length_cons]; omega))) ?_)
              rintro _ w40 ⟨A31, c31, rfl, hW31, hc⟩
              refine ⟨_, rfl, hc, ?_⟩
              have hzw40 := hc.size
              have HC := HC.tr hc
              have hrnd := hrnd.no hc
              have hb3 := hb3.ch hc (fun h => h)
              have hb4 := hb4.ch hc (fun h => h)
              have hW16 := hW16.after hc
              have hW22 := hW22.after hc
              have hS27 := hS27.no hc
              have hS29 := hS29.no hc
              have hS36 := hS36.no hc
              have hS38 := hS38.no hc
              have hS25 := hS25.no hc
              have hS34 := hS34.no hc
              have hQ30 := hQ30.no hc
              refine ws_narrow (S' := fun x => Ch No w40 x) (Ch.refl _ _) (fun x h => hc.tr h) ?_
              have hltg3 := hb3.lt
              have hltg4 := hb4.lt
              refine ws_e rfl rfl (e_bslV (E := 22) rfl rfl (fun _ => by kernel_rfl) (fun w41 g39 hg39 hb39 hc hsz39 => ⟨hc, ?_⟩))
              have hzw41 := hc.size
              have HC := HC.tr hc
              have hrnd := hrnd.no hc
              have hb3 := hb3.ch hc (fun h => h)
              have hb4 := hb4.ch hc (fun h => h)
              have hW16 := hW16.after hc
              have hW22 := hW22.after hc
              have hS27 := hS27.no hc
              have hS29 := hS29.no hc
              have hS36 := hS36.no hc
              have hS38 := hS38.no hc
              have hS25 := hS25.no hc
              have hS34 := hS34.no hc
              have hQ30 := hQ30.no hc
              have hW31 := hW31.after hc
              have hge39 : w.heap.size ≤ g39 := by have := HC.size; omega
              have hQ39 := SB.lit3 hb39 (hS34) (hS36) (hS38)
              refine ws_narrow (S' := fun x => Ch No w41 x) (Ch.refl _ _) (fun x h => hc.tr h) ?_
              refine ws_e rfl rfl (e_call ent26 rfl rfl (tbytes_any (t := 4) (hQ39) (by omega) (by first | omega | (simp only [List.flatten_cons, List.flatten_nil, List.length_append, List.length_nil, List.length_cons]; omega))) ?_)
              rintro _ w42 ⟨A40, c40, rfl, hW40, hc⟩
              refine ⟨_, rfl, hc, ?_⟩
              have hzw42 := hc.size
              have HC := HC.tr hc
              have hrnd := hrnd.no hc
              have hb3 := hb3.ch hc (fun h => h)
              have hb4 := hb4.ch hc (fun h => h)
              have hW16 := hW16.after hc
              have hW22 := hW22.after hc
              have hS27 := hS27.no hc
              have hS29 := hS29.no hc
              have hS36 := hS36.no hc
              have hS38 := hS38.no hc
              have hS25 := hS25.no hc
              have hS34 := hS34.no hc
              have hQ30 := hQ30.no hc
              have hW31 := hW31.after hc
              have hQ39 := hQ39.no hc
              refine ws_narrow (S' := fun x => Ch No w42 x) (Ch.refl _ _) (fun x h => hc.tr h) ?_
              refine ws_p rfl rfl rfl rfl (p_as rfl) ?_
              refine ws_p rfl rfl rfl rfl (p_as rfl) ?_
              refine ws_n ?_
              exact x_meet (by repeat (first | exact trivial | refine ⟨rfl, ?_⟩)) ⟨A16, c16, A22, c22, A31, c31, A40, c40, rfl, HC, hrnd, hb3, hb4, hW16.mono (fun k _ hk => by first | omega | (dsimp only at *; omega)), hW22.mono (fun k _ hk => by first | omega | (dsimp only at *; omega)), hW31.mono (fun k _ hk => by first | omega | (dsimp only at *; omega)), hW40.mono (fun k _ hk => by first | omega | (dsimp only at *; omega))⟩
            ·
              have hltg3 := hb3.lt
              have hltg4 := hb4.lt
              refine ws_e rfl rfl (e_bslV (E := 22) rfl rfl (fun _ => by kernel_rfl) (fun w43 g39 hg39 hb39 hc hsz39 => ⟨hc, ?_⟩))
              have hzw43 := hc.size
              have HC := HC.tr hc
              have hrnd := hrnd.no hc
              have hb3 := hb3.ch hc (fun h => h)
              have hb4 := hb4.ch hc (fun h => h)
              have hW16 := hW16.after hc
              have hW22 := hW22.after hc
              have hS27 := hS27.no hc
              have hS29 := hS29.no hc
              have hS36 := hS36.no hc
              have hS38 := hS38.no hc
              have hS25 := hS25.no hc
              have hS34 := hS34.no hc
              have hQ30 := hQ30.no hc
              have hge39 : w.heap.size ≤ g39 := by have := HC.size; omega
              have hQ39 := SB.lit3 hb39 (hS34) (hS36) (hS38)
              refine ws_narrow (S' := fun x => Ch No w43 x) (Ch.refl _ _) (fun x h => hc.tr h) ?_
              refine ws_e rfl rfl (e_call ent26 rfl rfl (tbytes_any (t := 4) (hQ30) (by omega) (by first | omega | (simp only [List.flatten_cons, List.flatten_nil, List.length_append, List.length_nil, List.length_cons]; omega))) ?_)
              rintro _ w44 ⟨A31, c31, rfl, hW31, hc⟩
              refine ⟨_, rfl, hc, ?_⟩
              have hzw44 := hc.size
              have HC := HC.tr hc
              have hrnd := hrnd.no hc
              have hb3 := hb3.ch hc (fun h => h)
              have hb4 := hb4.ch hc (fun h => h)
              have hW16 := hW16.after hc
              have hW22 := hW22.after hc
              have hS27 := hS27.no hc
              have hS29 := hS29.no hc
              have hS36 := hS36.no hc
              have hS38 := hS38.no hc
              have hS25 := hS25.no hc
              have hS34 := hS34.no hc
              have hQ30 := hQ30.no hc
              have hQ39 := hQ39.no hc
              refine ws_narrow (S' := fun x => Ch No w44 x) (Ch.refl _ _) (fun x h => hc.tr h) ?_
              refine ws_e rfl rfl (e_call ent26 rfl rfl (tbytes_any (t := 4) (hQ39) (by omega) (by first | omega | (simp only [List.flatten_cons, List.flatten_nil, List.length_append, List.length_nil, List.length_cons]; omega))) ?_)
              rintro _ w45 ⟨A40, c40, rfl, hW40, hc⟩
              refine ⟨_, rfl, hc, ?_⟩
              have hzw45 := hc.size
              have HC := HC.tr hc
              have hrnd := hrnd.no hc
              have hb3 := hb3.ch hc (fun h => h)
              have hb4 := hb4.ch hc (fun h => h)
              have hW16 := hW16.after hc
              have hW22 := hW22.after hc
              have hS27 := hS27.no hc
              have hS29 := hS29.no hc
              have hS36 := hS36.no hc
              have hS38 := hS38.no hc
              have hS25 := hS25.no hc
              have hS34 := hS34.no hc
              have hQ30 := hQ30.no hc
              have hQ39 := hQ39.no hc
              have hW31 := hW31.after hc
              refine ws_narrow (S' := fun x => Ch No w45 x) (Ch.refl _ _) (fun x h => hc.tr h) ?_
              refine ws_p rfl rfl rfl rfl (p_as rfl) ?_
              refine ws_p rfl rfl rfl rfl (p_as rfl) ?_
              refine ws_n ?_
              exact x_meet (by repeat (first | exact trivial | refine ⟨rfl, ?_⟩)) ⟨A16, c16, A22, c22, A31, c31, A40, c40, rfl, HC, hrnd, hb3, hb4, hW16.mono (fun k _ hk => by first | omega | (dsimp only at *; omega)), hW22.mono (fun k _ hk => by first | omega | (dsimp only at *; omega)), hW31.mono (fun k _ hk => by first | omega | (dsimp only at *; omega)), hW40.mono (fun k _ hk => by first | omega | (dsimp only at *; omega))⟩
          ·
            have hltg3 := hb3.lt
            have hltg4 := hb4.lt
            refine ws_e rfl rfl (e_bslV (E := 22) rfl rfl (fun _ => by kernel_rfl) (fun w46 g39 hg39 hb39 hc hsz39 => ⟨hc, ?_⟩))
            have hzw46 := hc.size
            have HC := HC.tr hc
            have hrnd := hrnd.no hc
            have hb3 := hb3.ch hc (fun h => h)
            have hb4 := hb4.ch hc (fun h => h)
            have hW16 := hW16.after hc
            have hW22 := hW22.after hc
            have hS27 := hS27.no hc
            have hS29 := hS29.no hc
            have hS36 := hS36.no hc
            have hS38 := hS38.no hc
            have hS25 := hS25.no hc
            have hS34 := hS34.no hc
            have hge39 : w.heap.size ≤ g39 := by have := HC.size; omega
            have hQ39 := SB.lit3 hb39 (hS34) (hS36) (hS38)
            refine ws_narrow (S' := fun x => Ch No w46 x) (Ch.refl _ _) (fun x h => hc.tr h) ?_
            have hltg3 := hb3.lt
            have hltg4 := hb4.lt
            refine ws_e rfl rfl (e_bslV (E := 22) rfl rfl (fun _ => by kernel_rfl) (fun w47 g30 hg30 hb30 hc hsz30 => ⟨hc, ?_⟩))
            have hzw47 := hc.size
            have HC := HC.tr hc
            have hrnd := hrnd.no hc
            have hb3 := hb3.ch hc (fun h => h)
            have hb4 := hb4.ch hc (fun h => h)
            have hW16 := hW16.after hc
            have hW22 := hW22.after hc
            have hS27 := hS27.no hc
            have hS29 := hS29.no hc
            have hS36 := hS36.no hc
            have hS38 := hS38.no hc
            have hS25 := hS25.no hc
            have hS34 := hS34.no hc
            have hQ39 := hQ39.no hc
            have hge30 : w.heap.size ≤ g30 := by have := HC.size; omega
            have hQ30 := SB.lit3 hb30 (hS25) (hS27) (hS29)
            refine ws_narrow (S' := fun x => Ch No w47 x) (Ch.refl _ _) (fun x h => hc.tr h) ?_
            refine ws_e rfl rfl (e_call ent26 rfl rfl (tbytes_any (t := 4) (hQ30) (by omega) (by first | omega | (simp only [List.flatten_cons, List.flatten_nil, List.length_append, List.length_nil, List.length_cons]; omega))) ?_)
            rintro _ w48 ⟨A31, c31, rfl, hW31, hc⟩
            refine ⟨_, rfl, hc, ?_⟩
            have hzw48 := hc.size
            have HC := HC.tr hc
            have hrnd := hrnd.no hc
            have hb3 := hb3.ch hc (fun h => h)
            have hb4 := hb4.ch hc (fun h => h)
            have hW16 := hW16.after hc
            have hW22 := hW22.after hc
            have hS27 := hS27.no hc
            have hS29 := hS29.no hc
            have hS36 := hS36.no hc
            have hS38 := hS38.no hc
            have hS25 := hS25.no hc
            have hS34 := hS34.no hc
            have hQ39 := hQ39.no hc
            have hQ30 := hQ30.no hc
            refine ws_narrow (S' := fun x => Ch No w48 x) (Ch.refl _ _) (fun x h => hc.tr h) ?_
            refine ws_e rfl rfl (e_call ent26 rfl rfl (tbytes_any (t := 4) (hQ39) (by omega) (by first | omega | (simp only [List.flatten_cons, List.flatten_nil, List.length_append, List.length_nil, List.length_cons]; omega))) ?_)
            rintro _ w49 ⟨A40, c40, rfl, hW40, hc⟩
            refine ⟨_, rfl, hc, ?_⟩
            have hzw49 := hc.size
            have HC := HC.tr hc
            have hrnd := hrnd.no hc
            have hb3 := hb3.ch hc (fun h => h)
            have hb4 := hb4.ch hc (fun h => h)
            have hW16 := hW16.after hc
            have hW22 := hW22.after hc
            have hS27 := hS27.no hc
            have hS29 := hS29.no hc
            have hS36 := hS36.no hc
            have hS38 := hS38.no hc
            have hS25 := hS25.no hc
            have hS34 := hS34.no hc
            have hQ39 := hQ39.no hc
            have hQ30 := hQ30.no hc
            have hW31 := hW31.after hc
            refine ws_narrow (S' := fun x => Ch No w49 x) (Ch.refl _ _) (fun x h => hc.tr h) ?_
            refine ws_p rfl rfl rfl rfl (p_as rfl) ?_
            refine ws_p rfl rfl rfl rfl (p_as rfl) ?_
            refine ws_n ?_
            exact x_meet (by repeat (first | exact trivial | refine ⟨rfl, ?_⟩)) ⟨A16, c16, A22, c22, A31, c31, A40, c40, rfl, HC, hrnd, hb3, hb4, hW16.mono (fun k _ hk => by first | omega | (dsimp only at *; omega)), hW22.mono (fun k _ hk => by first | omega | (dsimp only at *; omega)), hW31.mono (fun k _ hk => by first | omega | (dsimp only at *; omega)), hW40.mono (fun k _ hk => by first | omega | (dsimp only at *; omega))⟩
      ·
        have hltg3 := hb3.lt
        have hltg4 := hb4.lt
        refine ws_e rfl rfl (e_bslV (E := 5) rfl rfl (fun _ => by kernel_rfl) (fun w50 g34 hg34 hb34 hc hsz34 => ⟨hc, ?_⟩))
        have hzw50 := hc.size
        have HC := HC.tr hc
        have hrnd := hrnd.no hc
        have hb3 := hb3.ch hc (fun h => h)
        have hb4 := hb4.ch hc (fun h => h)
        have hW16 := hW16.after hc
        have hW22 := hW22.after hc
        have hS27 := hS27.no hc
        have hS29 := hS29.no hc
        have hS36 := hS36.no hc
        have hS38 := hS38.no hc
        have hge34 : w.heap.size ≤ g34 := by have := HC.size; omega
        have hS34 := Sl.lit1 (f := u8v) hb34
        refine ws_narrow (S' := fun x => Ch No w50 x) (Ch.refl _ _) (fun x h => hc.tr h) ?_
        refine ws_alt ?_ ?_
        ·
          have hltg3 := hb3.lt
          have hltg4 := hb4.lt
          refine ws_e rfl rfl (e_bslV (E := 5) rfl rfl (fun _ => by kernel_rfl) (fun w51 g25 hg25 hb25 hc hsz25 => ⟨hc, ?_⟩))
          have hzw51 := hc.size
          have HC := HC.tr hc
          have hrnd := hrnd.no hc
          have hb3 := hb3.ch hc (fun h => h)
          have hb4 := hb4.ch hc (fun h => h)
          have hW16 := hW16.after hc
          have hW22 := hW22.after hc
          have hS27 := hS27.no hc
          have hS29 := hS29.no hc
          have hS36 := hS36.no hc
          have hS38 := hS38.no hc
          have hS34 := hS34.no hc
          have hge25 : w.heap.size ≤ g25 := by have := HC.size; omega
          have hS25 := Sl.lit1 (f := u8v) hb25
          refine ws_narrow (S' := fun x => Ch No w51 x) (Ch.refl _ _) (fun x h => hc.tr h) ?_
          refine ws_alt ?_ ?_
          ·
            have hltg3 := hb3.lt
            have hltg4 := hb4.lt
            refine ws_e rfl rfl (e_bslV (E := 22) rfl rfl (fun _ => by kernel_rfl) (fun w52 g30 hg30 hb30 hc hsz30 => ⟨hc, ?_⟩))
            have hzw52 := hc.size
            have HC := HC.tr hc
            have hrnd := hrnd.no hc
            have hb3 := hb3.ch hc (fun h => h)
            have hb4 := hb4.ch hc (fun h => h)
            have hW16 := hW16.after hc
            have hW22 := hW22.after hc
            have hS27 := hS27.no hc
            have hS29 := hS29.no hc
            have hS36 := hS36.no hc
            have hS38 := hS38.no hc
            have hS34 := hS34.no hc
            have hS25 := hS25.no hc
            have hge30 : w.heap.size ≤ g30 := by have := HC.size; omega
            have hQ30 := SB.lit3 hb30 (hS25) (hS27) (hS29)
            refine ws_narrow (S' := fun x => Ch No w52 x) (Ch.refl _ _) (fun x h => hc.tr h) ?_
            refine ws_alt ?_ ?_
            ·
              refine ws_e rfl rfl (e_call ent26 rfl rfl (tbytes_any (t := 4) (hQ30) (by omega) (by first | omega | (simp only [List.flatten_cons, List.flatten_nil, List.length_append, List.length_nil, List.length_cons]; omega))) ?_)
              rintro _ w53 ⟨A31, c31, rfl, hW31, hc⟩
              refine ⟨_, rfl, hc, ?_⟩
              have hzw53 := hc.size
              have HC := HC.tr hc
              have hrnd := hrnd.no hc
              have hb3 := hb3.ch hc (fun h => h)
              have hb4 := hb4.ch hc (fun h => h)
              have hW16 := hW16.after hc
              have hW22 := hW22.after hc
              have hS27 := hS27.no hc
              have hS29 := hS29.no hc
              have hS36 := hS36.no hc
              have hS38 := hS38.no hc
              have hS34 := hS34.no hc
              have hS25 := hS25.no hc
              have hQ30 := hQ30.no hc
              refine ws_narrow (S' := fun x => Ch No w53 x) (Ch.refl _ _) (fun x h => hc.tr h) ?_
              have hltg3 := hb3.lt
              have hltg4 := hb4.lt
              refine ws_e rfl rfl (e_bslV (E := 22) rfl rfl (fun _ => by kernel_rfl) (fun w54 g39 hg39 hb39 hc hsz39 => ⟨hc, ?_⟩))
              have hzw54 := hc.size
              have HC := HC.tr hc
              have hrnd := hrnd.no hc
              have hb3 := hb3.ch hc (fun h => h)
              have hb4 := hb4.ch hc (fun h => h)
              have hW16 := hW16.after hc
              have hW22 := hW22.after hc
              have hS27 := hS27.no hc
              have hS29 := hS29.no hc
              have hS36 := hS36.no hc
              have hS38 := hS38.no hc
              have hS34 := hS34.no hc
              have hS25 := hS25.no hc
              have hQ30 := hQ30.no hc
              have hW31 := hW31.after hc
              have hge39 : w.heap.size ≤ g39 := by have := HC.size; omega
              have hQ39 := SB.lit3 hb39 (hS34) (hS36) (hS38)
              refine ws_narrow (S' := fun x => Ch No w54 x) (Ch.refl _ _) (fun x h => hc.tr h) ?_
              refine ws_e rfl rfl (e_call ent26 rfl rfl (tbytes_any (t := 4) (hQ39) (by omega) (by first | omega | (simp only [List.flatten_cons, List.flatten_nil, List.length_append, List.length_nil, List.length_cons]; omega))) ?_)
              rintro _ w55 ⟨A40, c40, rfl, hW40, hc⟩
              refine ⟨_, rfl, hc, ?_⟩
              have hzw55 := hc.size
              have HC := HC.tr hc
              have hrnd := hrnd.no hc
              have hb3 := hb3.ch hc (fun h => h)
              have hb4 := hb4.ch hc (fun h => h)
              have hW16 := hW16.after hc
              have hW22 := hW22.after hc
              have hS27 := hS27.no hc
              have hS29 := hS29.no hc
              have hS36 := hS36.no hc
              have hS38 := hS38.no hc
              have hS34 := hS34.no hc
              have hS25 := hS25.no hc
              have hQ30 := hQ30.no hc
              have hW31 := hW31.after hc
              have hQ39 := hQ39.no hc
              refine ws_narrow (S' := fun x => Ch No w55 x) (Ch.refl _ _) (fun x h => hc.tr h) ?_
              refine ws_p rfl rfl rfl rfl (p_as rfl) ?_
              refine ws_p rfl rfl rfl rfl (p_as rfl) ?_
              refine ws_n ?_
              exact x_meet (by repeat (first | exact trivial | refine ⟨rfl, ?_⟩)) ⟨A16, c16, A22, c22, A31, c31, A40, c40, rfl, HC, hrnd, hb3, hb4, hW16.mono (fun k _ hk => by first | omega | (dsimp only at *; omega)), hW22.mono (fun k _ hk => by first | omega | (dsimp only at *; omega)), hW31.mono (fun k _ hk => by first | omega | (dsimp only at *; omega)), hW40.mono (fun k _ hk => by first | omega | (dsimp only at *; omega))⟩
            ·
              have hltg3 := hb3.lt
              have hltg4 := hb4.lt
              refine ws_e rfl rfl (e_bslV (E := 22) rfl rfl (fun _ => by kernel_rfl) (fun w56 g39 hg39 hb39 hc hsz39 => ⟨hc, ?_⟩))
              have hzw56 := hc.size
              have HC := HC.tr hc
              have hrnd := hrnd.no hc
              have hb3 := hb3.ch hc (fun h => h)
              have hb4 := hb4.ch hc (fun h => h)
              have hW16 := hW16.after hc
              have hW22 := hW22.after hc
              have hS27 := hS27.no hc
              have hS29 := hS29.no hc
              have hS36 := hS36.no hc
              have hS38 := hS38.no hc
              have hS34 := hS34.no hc
              have hS25 := hS25.no hc
              have hQ30 := hQ30.no hc
              have hge39 : w.heap.size ≤ g39 := by have := HC.size; omega
              have hQ39 := SB.lit3 hb39 (hS34) (hS36) (hS38)
              refine ws_narrow (S' := fun x => Ch No w56 x) (Ch.refl _ _) (fun x h => hc.tr h) ?_
              refine ws_e rfl rfl (e_call ent26 rfl rfl (tbytes_any (t := 4) (hQ30) (by omega) (by first | omega | (simp only [List.flatten_cons, List.flatten_nil, List.length_append, List.length_nil, List.length_cons]; omega))) ?_)
              rintro _ w57 ⟨A31, c31, rfl, hW31, hc⟩
              refine ⟨_, rfl, hc, ?_⟩
              have hzw57 := hc.size
              have HC := HC.tr hc
              have hrnd := hrnd.no hc
              have hb3 := hb3.ch hc (fun h => h)
              have hb4 := hb4.ch hc (fun h => h)
              have hW16 := hW16.after hc
              have hW22 := hW22.after hc
              have hS27 := hS27.no hc
              have hS29 := hS29.no hc
              have hS36 := hS36.no hc
              have hS38 := hS38.no hc
              have hS34 := hS34.no hc
              have hS25 := hS25.no hc
              have hQ30 := hQ30.no hc
              have hQ39 := hQ39.no hc
              refine ws_narrow (S' := fun x => Ch No w57 x) (Ch.refl _ _) (fun x h => hc.tr h) ?_
              refine ws_e rfl rfl (e_call ent26 rfl rfl (tbytes_any (t := 4) (hQ39) (by omega) (by first | omega | (simp only [List.flatten_cons, List.flatten_nil, List.length_append, List.length_nil, List.length_cons]; omega))) ?_)
              rintro _ w58 ⟨A40, c40, rfl, hW40, hc⟩
              refine ⟨_, rfl, hc, ?_⟩
              have hzw58 := hc.size
              have HC := HC.tr hc
              have hrnd := hrnd.no hc
              have hb3 := hb3.ch hc (fun h => h)
              have hb4 := hb4.ch hc (fun h => h)
              have hW16 := hW16.after hc
              have hW22 := hW22.after hc
              have hS27 := hS27.no hc
              have hS29 := hS29.no hc
              have hS36 := hS36.no hc
              have hS38 := hS38.no hc
              have hS34 := hS34.no hc
              have hS25 := hS25.no hc
              have hQ30 := hQ30.no hc
              have hQ39 := hQ39.no hc
              have hW31 := hW31.after hc
              refine ws_narrow (S' := fun x => Ch No w58 x) (Ch.refl _ _) (fun x h => hc.tr h) ?_
              refine ws_p rfl rfl rfl rfl (p_as rfl) ?_
              refine ws_p rfl rfl rfl rfl (p_as rfl) ?_
              refine ws_n ?_
              exact x_meet (by repeat (first | exact trivial | refine ⟨rfl, ?_⟩)) ⟨A16, c16, A22, c22, A31, c31, A40, c40, rfl, HC, hrnd, hb3, hb4, hW16.mono (fun k _ hk => by first | omega | (dsimp only at *; omega)), hW22.mono (fun k _ hk => by first | omega | (dsimp only at *; omega)), hW31.mono (fun k _ hk => by first | omega | (dsimp only at *; omega)), hW40.mono (fun k _ hk => by first | omega | (dsimp only at *; omega))⟩
          ·
            have hltg3 := hb3.lt
            have hltg4 := hb4.lt
            refine ws_e rfl rfl (e_bslV (E := 22) rfl rfl (fun _ => by kernel_rfl) (fun w59 g39 hg39 hb39 hc hsz39 => ⟨hc, ?_⟩))
            have hzw59 := hc.size
            have HC := HC.tr hc
            have hrnd := hrnd.no hc
            have hb3 := hb3.ch hc (fun h => h)
            have hb4 := hb4.ch hc (fun h => h)
            have hW16 := hW16.after hc
            have hW22 := hW22.after hc
            have hS27 := hS27.no hc
            have hS29 := hS29.no hc
            have hS36 := hS36.no hc
            have hS38 := hS38.no hc
            have hS34 := hS34.no hc
            have hS25 := hS25.no hc
            have hge39 : w.heap.size ≤ g39 := by have := HC.size; omega
            have hQ39 := SB.lit3 hb39 (hS34) (hS36) (hS38)
            refine ws_narrow (S' := fun x => Ch No w59 x) (Ch.refl _ _) (fun x h => hc.tr h) ?_
            have hltg3 := hb3.lt
            have hltg4 := hb4.lt
            refine ws_e rfl rfl (e_bslV (E := 22) rfl rfl (fun _ => by kernel_rfl) (fun w60 g30 hg30 hb30 hc hsz30 => ⟨hc, ?_⟩))
            have hzw60 := hc.size
            have HC := HC.tr hc
            have hrnd := hrnd.no hc
            have hb3 := hb3.ch hc (fun h => h)
            have hb4 := hb4.ch hc (fun h => h)
            have hW16 := hW16.after hc
            have hW22 := hW22.after hc
            have hS27 := hS27.no hc
            have hS29 := hS29.no hc
            have hS36 := hS36.no hc
            have hS38 := hS38.no hc
            have hS34 := hS34.no hc
            have hS25 := hS25.no hc
            have hQ39 := hQ39.no hc
            have hge30 : w.heap.size ≤ g30 := by have := HC.size; omega
            have hQ30 := SB.lit3 hb30 (hS25) (hS27) (hS29)
            refine ws_narrow (S' := fun x => Ch No w60 x) (Ch.refl _ _) (fun x h => hc.tr h) ?_
            refine ws_e rfl rfl (e_call ent26 rfl rfl (tbytes_any (t := 4) (hQ30) (by omega) (by first | omega | (simp only [List.flatten_cons, List.flatten_nil, List.length_append, List.length_nil, List.length_cons]; omega))) ?_)
            rintro _ w61 ⟨A31, c31, rfl, hW31, hc⟩
            refine ⟨_, rfl, hc, ?_⟩
            have hzw61 := hc.size
            have HC := HC.tr hc
            have hrnd := hrnd.no hc
            have hb3 := hb3.ch hc (fun h => h)
            have hb4 := hb4.ch hc (fun h => h)
            have hW16 := hW16.after hc
            have hW22 := hW22.after hc
            have hS27 := hS27.no hc
            have hS29 := hS29.no hc
            have hS36 := hS36.no hc
            have hS38 := hS38.no hc
            have hS34 := hS34.no hc
            have hS25 := hS25.no hc
            have hQ39 := hQ39.no hc
            have hQ30 := hQ30.no hc
            refine ws_narrow (S' := fun x => Ch No w61 x) (Ch.refl _ _) (fun x h => hc.tr h) ?_
            refine ws_e rfl rfl (e_call ent26 rfl rfl (tbytes_any (t := 4) (hQ39) (by omega) (by first | omega | (simp only [List.flatten_cons, List.flatten_nil, List.length_append, List.length_nil, List.length_cons]; omega))) ?_)
            rintro _ w62 ⟨A40, c40, rfl, hW40, hc⟩
            refine ⟨_, rfl, hc, ?_⟩
            have hzw62 := hc.size
            have HC := HC.tr hc
            have hrnd := hrnd.no hc
            have hb3 := hb3.ch hc (fun h => h)
            have hb4 := hb4.ch hc (fun h => h)
            have hW16 := hW16.after hc
            have hW22 := hW22.after hc
            have hS27 := hS27.no hc
            have hS29 := hS29.no hc
            have hS36 := hS36.no hc
            have hS38 := hS38.no hc
            have hS34 := hS34.no hc
            have hS25 := hS25.no hc
            have hQ39 := hQ39.no hc
            have hQ30 := hQ30.no hc
            have hW31 := hW31.after hc
            refine ws_narrow (S' := fun x => Ch No w62 x) (Ch.refl _ _) (fun x h => hc.tr h) ?_
            refine ws_p rfl rfl rfl rfl (p_as rfl) ?_
            refine ws_p rfl rfl rfl rfl (p_as rfl) ?_
            refine ws_n ?_
            exact x_meet (by repeat (first | exact trivial | refine ⟨rfl, ?_⟩)) ⟨A16, c16, A22, c22, A31, c31, A40, c40, rfl, HC, hrnd, hb3, hb4, hW16.mono (fun k _ hk => by first | omega | (dsimp only at *; omega)), hW22.mono (fun k _ hk => by first | omega | (dsimp only at *; omega)), hW31.mono (fun k _ hk => by first | omega | (dsimp only at *; omega)), hW40.mono (fun k _ hk => by first | omega | (dsimp only at *; omega))⟩
        ·
          have hltg3 := hb3.lt
          have hltg4 := hb4.lt
          refine ws_e rfl rfl (e_bslV (E := 22) rfl rfl (fun _ => by kernel_rfl) (fun w63 g39 hg39 hb39 hc hsz39 => ⟨hc, ?_⟩))
          have hzw63 := hc.size
          have HC := HC.tr hc
          have hrnd := hrnd.no hc
          have hb3 := hb3.ch hc (fun h => h)
          have hb4 := hb4.ch hc (fun h => h)
          have hW16 := hW16.after hc
          have hW22 := hW22.after hc
          have hS27 := hS27.no hc
          have hS29 := hS29.no hc
          have hS36 := hS36.no hc
          have hS38 := hS38.no hc
          have hS34 := hS34.no hc
          have hge39 : w.heap.size ≤ g39 := by have := HC.size; omega
          have hQ39 := SB.lit3 hb39 (hS34) (hS36) (hS38)
          refine ws_narrow (S' := fun x => Ch No w63 x) (Ch.refl _ _) (fun x h => hc.tr h) ?_
          have hltg3 := hb3.lt
          have hltg4 := hb4.lt
          refine ws_e rfl rfl (e_bslV (E := 5) rfl rfl (fun _ => by kernel_rfl) (fun w65 g25 hg25 hb25 hc hsz25 => ⟨hc, ?_⟩))
          have hzw65 := hc.size
          have HC := HC.tr hc
          have hrnd := hrnd.no hc
          have hb3 := hb3.ch hc (fun h => h)
          have hb4 := hb4.ch hc (fun h => h)
          have hW16 := hW16.after hc
          have hW22 := hW22.after hc
          have hS27 := hS27.no hc
          have hS29 := hS29.no hc
          have hS36 := hS36.no hc
          have hS38 := hS38.no hc
          have hS34 := hS34.no hc
          have hQ39 := hQ39.no hc
          have hge25 : w.heap.size ≤ g25 := by have := HC.size; omega
          have hS25 := Sl.lit1 (f := u8v) hb25
          refine ws_narrow (S' := fun x => Ch No w65 x) (Ch.refl _ _) (fun x h => hc.tr h) ?_
          have hltg3 := hb3.lt
          have hltg4 := hb4.lt
          refine ws_e rfl rfl (e_bslV (E := 22) rfl rfl (fun _ => by kernel_rfl) (fun w66 g30 hg30 hb30 hc hsz30 => ⟨hc, ?_⟩))
          have hzw66 := hc.size
          have HC := HC.tr hc
          have hrnd := hrnd.no hc
          have hb3 := hb3.ch hc (fun h => h)
          have hb4 := hb4.ch hc (fun h => h)
          have hW16 := hW16.after hc
          have hW22 := hW22.after hc
          have hS27 := hS27.no hc
          have hS29 := hS29.no hc
          have hS36 := hS36.no hc
          have hS38 := hS38.no hc
          have hS34 := hS34.no hc
          have hQ39 := hQ39.no hc
          have hS25 := hS25.no hc
          have hge30 : w.heap.size ≤ g30 := by have := HC.size; omega
          have hQ30 := SB.lit3 hb30 (hS25) (hS27) (hS29)
          refine ws_narrow (S' := fun x => Ch No w66 x) (Ch.refl _ _) (fun x h => hc.tr h) ?_
          refine ws_e rfl rfl (e_call ent26 rfl rfl (tbytes_any (t := 4) (hQ30) (by omega) (by first | omega | (simp only [List.flatten_cons, List.flatten_nil, List.length_append, List.length_nil, List.length_cons]; omega))) ?_)
          rintro _ w67 ⟨A31, c31, rfl, hW31, hc⟩
          refine ⟨_, rfl, hc, ?_⟩
          have hzw67 := hc.size
          have HC := HC.tr hc
          have hrnd := hrnd.no hc
          have hb3 := hb3.ch hc (fun h => h)
          have hb4 := hb4.ch hc (fun h => h)
          have hW16 := hW16.after hc
          have hW22 := hW22.after hc
          have hS27 := hS27.no hc
          have hS29 := hS29.no hc
          have hS36 := hS36.no hc
          have hS38 := hS38.no hc
          have hS34 := hS34.no hc
          have hQ39 := hQ39.no hc
          have hS25 := hS25.no hc
          have hQ30 := hQ30.no hc
          refine ws_narrow (S' := fun x => Ch No w67 x) (Ch.refl _ _) (fun x h => hc.tr h) ?_
          refine ws_e rfl rfl (e_call ent26 rfl rfl (tbytes_any (t := 4) (hQ39) (by omega) (by first | omega | (simp only [List.flatten_cons, List.flatten_nil, List.length_append, List.length_nil, List.length_cons]; omega))) ?_)
          rintro _ w68 ⟨A40, c40, rfl, hW40, hc⟩
          refine ⟨_, rfl, hc, ?_⟩
          have hzw68 := hc.size
          have HC := HC.tr hc
          have hrnd := hrnd.no hc
          have hb3 := hb3.ch hc (fun h => h)
          have hb4 := hb4.ch hc (fun h => h)
          have hW16 := hW16.after hc
          have hW22 := hW22.after hc
          have hS27 := hS27.no hc
          have hS29 := hS29.no hc
          have hS36 := hS36.no hc
          have hS38 := hS38.no hc
          have hS34 := hS34.no hc
          have hQ39 := hQ39.no hc
          have hS25 := hS25.no hc
          have hQ30 := hQ30.no hc
          have hW31 := hW31.after hc
          refine ws_narrow (S' := fun x => Ch No w68 x) (Ch.refl _ _) (fun x h => hc.tr h) ?_
          refine ws_p rfl rfl rfl rfl (p_as rfl) ?_
          refine ws_p rfl rfl rfl rfl (p_as rfl) ?_
          refine ws_n ?_
          exact x_meet (by repeat (first | exact trivial | refine ⟨rfl, ?_⟩)) ⟨A16, c16, A22, c22, A31, c31, A40, c40, rfl, HC, hrnd, hb3, hb4, hW16.mono (fun k _ hk => by first | omega | (dsimp only at *; omega)), hW22.mono (fun k _ hk => by first | omega | (dsimp only at *; omega)), hW31.mono (fun k _ hk => by first | omega | (dsimp only at *; omega)), hW40.mono (fun k _ hk => by first | omega | (dsimp only at *; omega))⟩
    ·
      rintro _ w69 ⟨A16, c16, A22, c22, A31, c31, A40, c40, rfl, HC, hrnd, hb3, hb4, hW16, hW22, hW31, hW40⟩
      have hzw69 := HC.size
      refine wc_seq ?_
      refine wc_seq ?_
      refine wc_draw (.st 0 0 (.st 1 1 (.st 2 0 (.st 3 1 (.st 4 0 (.st 5 1 (.st 6 1 (.st 7 0 (.st 8 0 (.st 9 0 (.st 10 0 (.st 11 1 (.st 12 0 (.st 13 1 (.st 14 0 (.st 15 1 (.st 16 1 (.st 17 0 (.st 18 0 (.st 19 0 .nil)))))))))))))))))))) 20 (by kernel_rfl) (by kernel_rfl) (by kernel_rfl) (by repeat (first | with_reducible exact pan_body | with_reducible apply pan_then | with_reducible apply pan_in)) (fun x => Ch No w69.drew x) (Ch.refl _ _) ?_
      obtain ⟨w70, ew70⟩ : ∃ x, x = w69.drew := ⟨_, rfl⟩
      rw [← ew70]
      have hc : Ch No w69 w70 := by rw [ew70]; exact Ch.drew _
      have hszw70 : w70.heap.size = w69.heap.size := by rw [ew70]; rfl
      clear ew70
      have hzw70 := hc.size
      have HC := HC.tr hc
      have hrnd := hrnd.no hc
      have hb3 := hb3.ch hc (fun h => h)
      have hb4 := hb4.ch hc (fun h => h)
      have hW16 := hW16.no hc
      have hW22 := hW22.no hc
      have hW31 := hW31.no hc
      have hW40 := hW40.no hc
      have hS : Ch No w70 w70 := Ch.refl _ _
      refine ws_p rfl rfl rfl rfl (p_mv rfl) ?_
      refine ws_h rfl rfl rfl rfl (p_bts Tryd.underlying22 Tryd.underlying5 Tryd.underlying9 rfl (hW16.sl).len (fun _ h => (hW16.sl).rd.no h)) ?_
      refine ws_p rfl rfl rfl rfl (p_mv rfl) ?_
      refine ws_h rfl rfl rfl rfl (p_bts Tryd.underlying22 Tryd.underlying5 Tryd.underlying9 rfl (hW22.sl).len (fun _ h => (hW22.sl).rd.no h)) ?_
      refine ws_p rfl rfl rfl rfl (p_eqT rfl rfl) ?_
      refine ws_h rfl rfl rfl rfl (p_ldA (cs := List.map u8v (a ++ b)) Tryd.underlying37 rfl (szL sz37 (by rw [List.length_map]; exact (by rw [List.length_append, ha, hb]))) rfl (fun _ h => (rngL (hb3.ch h (fun h => h))))) ?_
      refine ws_h rfl rfl rfl rfl (p_ldA (cs := List.map u8v (c ++ d)) Tryd.underlying37 rfl (szL sz37 (by rw [List.length_map]; exact (by rw [List.length_append, hc0, hd]))) rfl (fun _ h => (rngL (hb4.ch h (fun h => h))))) ?_
      refine ws_p rfl rfl rfl rfl (p_eqH2 (a := a) (b := b) (c := c) (d := d) (by kernel_rfl) Tryd.underlying37 Tryd.underlying25 Tryd.underlying5 sz5 (by rfl) (by kernel_rfl) rfl rfl (ha) (hb) (hc0) (hd)) ?_
      refine ws_p rfl rfl rfl rfl (p_neB rfl rfl Tryd.underlying4) ?_
      refine ws_p rfl rfl rfl rfl (p_mv rfl) ?_
      refine ws_know (d := 50) (b' := false) rfl (by rw [sides1]; exact bne_self_eq_false _) ?_
      refine ws_pg rfl (gd_ rfl rfl rfl rfl rfl rfl) rfl rfl (p_mv rfl) ?_
      refine ws_hg rfl (gd_ rfl rfl rfl rfl rfl rfl) rfl rfl (p_bts Tryd.underlying22 Tryd.underlying5 Tryd.underlying9 rfl (hW31.sl).len (fun _ h => (hW31.sl).rd.no h)) ?_
      refine ws_pg rfl (gd_ rfl rfl rfl rfl rfl rfl) rfl rfl (p_mv rfl) ?_
      refine ws_hg rfl (gd_ rfl rfl rfl rfl rfl rfl) rfl rfl (p_bts Tryd.underlying22 Tryd.underlying5 Tryd.underlying9 rfl (hW40.sl).len (fun _ h => (hW40.sl).rd.no h)) ?_
      refine ws_pg rfl (gd_ rfl rfl rfl rfl rfl rfl) rfl rfl (p_eqT rfl rfl) ?_
      refine ws_hg rfl (gd_ rfl rfl rfl rfl rfl rfl) rfl rfl (p_ldA (cs := List.map u8v (a ++ b)) Tryd.underlying37 rfl (szL sz37 (by rw [List.length_map]; exact (by rw [List.length_append, ha, hb]))) rfl (fun _ h => (rngL (hb3.ch h (fun h => h))))) ?_
      refine ws_hg rfl (gd_ rfl rfl rfl rfl rfl rfl) rfl rfl (p_ldA (cs := List.map u8v (c ++ d)) Tryd.underlying37 rfl (szL sz37 (by rw [List.length_map]; exact (by rw [List.length_append, hc0, hd]))) rfl (fun _ h => (rngL (hb4.ch h (fun h => h))))) ?_
      refine ws_pg rfl (gd_ rfl rfl rfl rfl rfl rfl) rfl rfl (p_eqH2 (a := a) (b := b) (c := c) (d := d) (by kernel_rfl) Tryd.underlying37 Tryd.underlying25 Tryd.underlying5 sz5 (by rfl) (by kernel_rfl) rfl rfl (ha) (hb) (hc0) (hd)) ?_
      refine ws_pg rfl (gd_ rfl rfl rfl rfl rfl rfl) rfl rfl (p_neB rfl rfl Tryd.underlying4) ?_
      refine ws_p rfl rfl rfl rfl (p_pickF rfl rfl) ?_
      refine ws_n ?_
      refine x_seq ?_
      refine wc_no rfl (by rw [sides4]; exact bne_self_eq_false _) ?_
      refine wc_skip ?_
      refine x_seq ?_
      refine wc_seq ?_
      refine wc_draw (.st 0 0 (.st 1 1 (.st 2 0 (.st 3 1 (.st 5 0 (.st 6 1 (.st 7 0 (.st 8 1 (.st 11 0 (.st 13 0 (.st 4 2 (.st 9 2 (.st 10 0 (.st 12 2 (.st 14 2 (.st 15 0 (.st 16 0 (.st 17 0 (.st 18 0 (.st 19 0 (.st 20 1 (.st 21 0 (.st 22 1 (.st 24 0 (.st 25 0 (.st 26 1 (.st 27 0 (.st 28 1 (.st 31 0 (.st 33 0 (.st 23 2 (.st 29 2 (.st 30 0 (.st 32 2 (.st 34 2 (.st 35 0 (.st 36 0 (.st 37 0 (.st 38 0 (.st 39 2 (.st 40 0 (.st 41 0 .nil)))))))))))))))))))))))))))))))))))))))))) 42 (by kernel_rfl) (by kernel_rfl) (by kernel_rfl) (by repeat (first | with_reducible exact pan_body | with_reducible apply pan_then | with_reducible apply pan_in)) (fun x => Ch No w70.drew x) (Ch.refl _ _) ?_
      obtain ⟨w71, ew71⟩ : ∃ x, x = w70.drew := ⟨_, rfl⟩
      rw [← ew71]
      have hc : Ch No w70 w71 := by rw [ew71]; exact Ch.drew _
      have hszw71 : w71.heap.size = w70.heap.size := by rw [ew71]; rfl
      clear ew71
      have hzw71 := hc.size
      have HC := HC.tr hc
      have hrnd := hrnd.no hc
      have hb3 := hb3.ch hc (fun h => h)
      have hb4 := hb4.ch hc (fun h => h)
      have hW16 := hW16.no hc
      have hW22 := hW22.no hc
      have hW31 := hW31.no hc
      have hW40 := hW40.no hc
      have hS : Ch No w71 w71 := Ch.refl _ _
      refine ws_p rfl rfl rfl rfl (p_ixA (j := 0) Tryd.underlying37 sz25 rfl rfl (by omega) (by omega) rfl) ?_
      refine ws_h rfl rfl rfl rfl (p_ldA (cs := List.map u8v a) Tryd.underlying25 rfl (szL sz25 (by rw [List.length_map]; exact ha)) rfl (fun _ h => rng_fst (hb3.ch h (fun h => h)))) ?_
      refine ws_p rfl rfl rfl rfl (p_ixA (j := 32) Tryd.underlying37 sz25 rfl rfl (by omega) (by omega) rfl) ?_
      refine ws_h rfl rfl rfl rfl (p_ldA (cs := List.map u8v b) Tryd.underlying25 rfl (szL sz25 (by rw [List.length_map]; exact hb)) rfl (fun _ h => rng_snd (hb3.ch h (fun h => h)) (ha))) ?_
      refine ws_p rfl rfl rfl rfl (p_ixA (j := 0) Tryd.underlying37 sz25 rfl rfl (by omega) (by omega) rfl) ?_
      refine ws_h rfl rfl rfl rfl (p_ldA (cs := List.map u8v c) Tryd.underlying25 rfl (szL sz25 (by rw [List.length_map]; exact hc0)) rfl (fun _ h => rng_fst (hb4.ch h (fun h => h)))) ?_
      refine ws_p rfl rfl rfl rfl (p_ixA (j := 32) Tryd.underlying37 sz25 rfl rfl (by omega) (by omega) rfl) ?_
      refine ws_h rfl rfl rfl rfl (p_ldA (cs := List.map u8v d) Tryd.underlying25 rfl (szL sz25 (by rw [List.length_map]; exact hd)) rfl (fun _ h => rng_snd (hb4.ch h (fun h => h)) (hc0))) ?_
      refine ws_p rfl rfl rfl rfl (p_mv rfl) ?_
      refine ws_p rfl rfl rfl rfl (p_mv rfl) ?_
      refine ws_e rfl rfl (e_call ent28 rfl rfl (tnode_any (ha) (hb) hrnd) ?_)
      rintro _ w76 ⟨rfl, hc⟩
      refine ⟨_, rfl, hc, ?_⟩
      have hzw76 := hc.size
      have HC := HC.tr hc
      have hrnd := hrnd.no hc
      have hb3 := hb3.ch hc (fun h => h)
      have hb4 := hb4.ch hc (fun h => h)
      have hW16 := hW16.after hc
      have hW22 := hW22.after hc
      have hW31 := hW31.after hc
      have hW40 := hW40.after hc
      refine ws_narrow (S' := fun x => Ch No w76 x) (Ch.refl _ _) (fun x h => hc.tr h) ?_
      refine ws_e rfl rfl (e_call ent28 rfl rfl (tnode_any (hc0) (hd) hrnd) ?_)
      rintro _ w77 ⟨rfl, hc⟩
      refine ⟨_, rfl, hc, ?_⟩
      have hzw77 := hc.size
      have HC := HC.tr hc
      have hrnd := hrnd.no hc
      have hb3 := hb3.ch hc (fun h => h)
      have hb4 := hb4.ch hc (fun h => h)
      have hW16 := hW16.after hc
      have hW22 := hW22.after hc
      have hW31 := hW31.after hc
      have hW40 := hW40.after hc
      refine ws_narrow (S' := fun x => Ch No w77 x) (Ch.refl _ _) (fun x h => hc.tr h) ?_
      refine ws_p rfl rfl rfl rfl (p_eqH (a := (nodeH _ _)) (b := (nodeH _ _)) (by kernel_rfl) Tryd.underlying25 Tryd.underlying5 sz5 rfl rfl (nodeH_len _ _) (nodeH_len _ _)) ?_
      refine ws_e rfl rfl (e_call ent20 rfl rfl (rsum_any (hW16.sl) (by first | omega | (simp only [List.flatten_cons, List.flatten_nil, List.length_append, List.length_nil, List.length_cons]; omega))) ?_)
      rintro _ w78 ⟨rfl, hc⟩
      refine ⟨_, rfl, hc, ?_⟩
      have hzw78 := hc.size
      have HC := HC.tr hc
      have hrnd := hrnd.no hc
      have hb3 := hb3.ch hc (fun h => h)
      have hb4 := hb4.ch hc (fun h => h)
      have hW16 := hW16.after hc
      have hW22 := hW22.after hc
      have hW31 := hW31.after hc
      have hW40 := hW40.after hc
      refine ws_narrow (S' := fun x => Ch No w78 x) (Ch.refl _ _) (fun x h => hc.tr h) ?_
      refine ws_e rfl rfl (e_call ent20 rfl rfl (rsum_any (hW22.sl) (by first | omega | (simp only [List.flatten_cons, List.flatten_nil, List.length_append, List.length_nil, List.length_cons]; omega))) ?_)
      rintro _ w79 ⟨rfl, hc⟩
      refine ⟨_, rfl, hc, ?_⟩
      have hzw79 := hc.size
      have HC := HC.tr hc
      have hrnd := hrnd.no hc
      have hb3 := hb3.ch hc (fun h => h)
      have hb4 := hb4.ch hc (fun h => h)
      have hW16 := hW16.after hc
      have hW22 := hW22.after hc
      have hW31 := hW31.after hc
      have hW40 := hW40.after hc
      refine ws_narrow (S' := fun x => Ch No w79 x) (Ch.refl _ _) (fun x h => hc.tr h) ?_
      refine ws_p rfl rfl rfl rfl (p_eqH (a := (shaF _)) (b := (shaF _)) (by kernel_rfl) Tryd.underlying24 Tryd.underlying5 sz5 rfl rfl (shaF_len _) (shaF_len _)) ?_
      refine ws_p rfl rfl rfl rfl (p_eqB rfl rfl Tryd.underlying4) ?_
      refine ws_p rfl rfl rfl rfl (p_mv rfl) ?_
      refine ws_know (d := 78) (b' := true) rfl (by rw [node_of, node_of]; exact beq_self_eq_true _) ?_
      refine ws_pg rfl (gd_ rfl rfl rfl rfl rfl rfl) rfl rfl (p_mv rfl) ?_
      refine ws_pg rfl (gd_ rfl rfl rfl rfl rfl rfl) rfl rfl (p_ixA (j := 0) Tryd.underlying37 sz25 rfl rfl (by omega) (by omega) rfl) ?_
      refine ws_hg rfl (gd_ rfl rfl rfl rfl rfl rfl) rfl rfl (p_ldA (cs := List.map u8v a) Tryd.underlying25 rfl (szL sz25 (by rw [List.length_map]; exact ha)) rfl (fun _ h => rng_fst (hb3.ch h (fun h => h)))) ?_
      refine ws_pg rfl (gd_ rfl rfl rfl rfl rfl rfl) rfl rfl (p_ixA (j := 32) Tryd.underlying37 sz25 rfl rfl (by omega) (by omega) rfl) ?_
      refine ws_hg rfl (gd_ rfl rfl rfl rfl rfl rfl) rfl rfl (p_ldA (cs := List.map u8v b) Tryd.underlying25 rfl (szL sz25 (by rw [List.length_map]; exact hb)) rfl (fun _ h => rng_snd (hb3.ch h (fun h => h)) (ha))) ?_
      refine ws_pg rfl (gd_ rfl rfl rfl rfl rfl rfl) rfl rfl (p_mv rfl) ?_
      refine ws_pg rfl (gd_ rfl rfl rfl rfl rfl rfl) rfl rfl (p_ixA (j := 0) Tryd.underlying37 sz25 rfl rfl (by omega) (by omega) rfl) ?_
      refine ws_hg rfl (gd_ rfl rfl rfl rfl rfl rfl) rfl rfl (p_ldA (cs := List.map u8v c) Tryd.underlying25 rfl (szL sz25 (by rw [List.length_map]; exact hc0)) rfl (fun _ h => rng_fst (hb4.ch h (fun h => h)))) ?_
      refine ws_pg rfl (gd_ rfl rfl rfl rfl rfl rfl) rfl rfl (p_ixA (j := 32) Tryd.underlying37 sz25 rfl rfl (by omega) (by omega) rfl) ?_
      refine ws_hg rfl (gd_ rfl rfl rfl rfl rfl rfl) rfl rfl (p_ldA (cs := List.map u8v d) Tryd.underlying25 rfl (szL sz25 (by rw [List.length_map]; exact hd)) rfl (fun _ h => rng_snd (hb4.ch h (fun h => h)) (hc0))) ?_
      refine ws_pg rfl (gd_ rfl rfl rfl rfl rfl rfl) rfl rfl (p_mv rfl) ?_
      refine ws_pg rfl (gd_ rfl rfl rfl rfl rfl rfl) rfl rfl (p_mv rfl) ?_
      refine ws_eg rfl (gd_ rfl rfl rfl rfl rfl rfl) (e_call ent29 rfl rfl (tfork_any (ha) (hb) hrnd) ?_)
      rintro _ w84 ⟨rfl, hc⟩
      refine ⟨_, rfl, hc, ?_⟩
      have hzw84 := hc.size
      have HC := HC.tr hc
      have hrnd := hrnd.no hc
      have hb3 := hb3.ch hc (fun h => h)
      have hb4 := hb4.ch hc (fun h => h)
      have hW16 := hW16.after hc
      have hW22 := hW22.after hc
      have hW31 := hW31.after hc
      have hW40 := hW40.after hc
      refine ws_narrow (S' := fun x => Ch No w84 x) (Ch.refl _ _) (fun x h => hc.tr h) ?_
      refine ws_eg rfl (gd_ rfl rfl rfl rfl rfl rfl) (e_call ent29 rfl rfl (tfork_any (hc0) (hd) hrnd) ?_)
      rintro _ w85 ⟨rfl, hc⟩
      refine ⟨_, rfl, hc, ?_⟩
      have hzw85 := hc.size
      have HC := HC.tr hc
      have hrnd := hrnd.no hc
      have hb3 := hb3.ch hc (fun h => h)
      have hb4 := hb4.ch hc (fun h => h)
      have hW16 := hW16.after hc
      have hW22 := hW22.after hc
      have hW31 := hW31.after hc
      have hW40 := hW40.after hc
      refine ws_narrow (S' := fun x => Ch No w85 x) (Ch.refl _ _) (fun x h => hc.tr h) ?_
      refine ws_pg rfl (gd_ rfl rfl rfl rfl rfl rfl) rfl rfl (p_eqH (a := (forkH _ _ _)) (b := (forkH _ _ _)) (by kernel_rfl) Tryd.underlying25 Tryd.underlying5 sz5 rfl rfl (forkH_len _ _ _) (forkH_len _ _ _)) ?_
      refine ws_eg rfl (gd_ rfl rfl rfl rfl rfl rfl) (e_call ent20 rfl rfl (rsum_any (hW31.sl) (by first | omega | (simp only [List.flatten_cons, List.flatten_nil, List.length_append, List.length_nil, List.length_cons]; omega))) ?_)
      rintro _ w86 ⟨rfl, hc⟩
      refine ⟨_, rfl, hc, ?_⟩
      have hzw86 := hc.size
      have HC := HC.tr hc
      have hrnd := hrnd.no hc
      have hb3 := hb3.ch hc (fun h => h)
      have hb4 := hb4.ch hc (fun h => h)
      have hW16 := hW16.after hc
      have hW22 := hW22.after hc
      have hW31 := hW31.after hc
      have hW40 := hW40.after hc
      refine ws_narrow (S' := fun x => Ch No w86 x) (Ch.refl _ _) (fun x h => hc.tr h) ?_
      refine ws_eg rfl (gd_ rfl rfl rfl rfl rfl rfl) (e_call ent20 rfl rfl (rsum_any (hW40.sl) (by first | omega | (simp only [List.flatten_cons, List.flatten_nil, List.length_append, List.length_nil, List.length_cons]; omega))) ?_)
      rintro _ w87 ⟨rfl, hc⟩
      refine ⟨_, rfl, hc, ?_⟩
      have hzw87 := hc.size
      have HC := HC.tr hc
      have hrnd := hrnd.no hc
      have hb3 := hb3.ch hc (fun h => h)
      have hb4 := hb4.ch hc (fun h => h)
      have hW16 := hW16.after hc
      have hW22 := hW22.after hc
      have hW31 := hW31.after hc
      have hW40 := hW40.after hc
      refine ws_narrow (S' := fun x => Ch No w87 x) (Ch.refl _ _) (fun x h => hc.tr h) ?_
      refine ws_pg rfl (gd_ rfl rfl rfl rfl rfl rfl) rfl rfl (p_eqH (a := (shaF _)) (b := (shaF _)) (by kernel_rfl) Tryd.underlying24 Tryd.underlying5 sz5 rfl rfl (shaF_len _) (shaF_len _)) ?_
      refine ws_pg rfl (gd_ rfl rfl rfl rfl rfl rfl) rfl rfl (p_eqB rfl rfl Tryd.underlying4) ?_
      refine ws_p rfl rfl rfl rfl (p_pickT rfl rfl) ?_
      refine ws_p rfl rfl rfl rfl (p_mv rfl) ?_
      refine ws_know (d := 99) (b' := true) rfl (by rw [fork_of, fork_of]; exact beq_self_eq_true _) ?_
      refine ws_eg rfl (gd_ rfl rfl rfl rfl rfl rfl) (e_call ent25 rfl rfl (lives4_any hrnd) ?_)
      rintro _ w88 ⟨rfl, hc⟩
      refine ⟨_, rfl, hc, ?_⟩
      have hzw88 := hc.size
      have HC := HC.tr hc
      have hrnd := hrnd.no hc
      have hb3 := hb3.ch hc (fun h => h)
      have hb4 := hb4.ch hc (fun h => h)
      have hW16 := hW16.after hc
      have hW22 := hW22.after hc
      have hW31 := hW31.after hc
      have hW40 := hW40.after hc
      refine ws_narrow (S' := fun x => Ch No w88 x) (Ch.refl _ _) (fun x h => hc.tr h) ?_
      refine ws_p rfl rfl rfl rfl (p_pickT rfl rfl) ?_
      refine ws_p rfl rfl rfl rfl (p_as rfl) ?_
      refine ws_n ?_
      refine x_seq ?_
      refine wc_ret ?_
      refine fin_run (res1 rfl rfl) ?_
      exact ⟨rfl, HC⟩
end Go.Proofs.YtdbdconmcgcooaaDoor
