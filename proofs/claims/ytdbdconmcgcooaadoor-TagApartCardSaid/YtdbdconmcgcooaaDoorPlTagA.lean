/-
  Own text: layer 4's law of kinds that lie apart: what slots hold behind a region that draws its order; the bytes of seven kinds differ.
-/
import Derived.Test.YtdbdconmcgcooaaDoorGxAny
import Derived.Test.YtdbdconmcgcooaaDoorPlTag
import Derived.Great.BuildSlice
set_option linter.unusedVariables false
namespace Go.Gx
open Go.RowKit Go.Plain
/-- What is said of a slot. -/
inductive AS where
  | val (u : Value)
  | sl (L : List UInt8)
  | sb (q : List (List UInt8))
  | no
def AS.ok : AS → Value → World → Prop
  | .val u, v, _ => v = u
  | .sl L, v, w => ∃ A l c, v = .slice A l c ∧ Sl w (fun _ => True) u8v A l c L
  | .sb q, v, w => ∃ A c, v = .slice A q.length c ∧ SB w (fun _ => True) A q.length c q
  | .no, _, _ => True
theorem AS.ch {s : AS} {v : Value} {w w' : World} (c : Ch No w w') (h : s.ok v w) : s.ok v w' := by
  cases s with
  | val u => exact h
  | sl L => obtain ⟨A, l, k, h1, h2⟩ := h; exact ⟨A, l, k, h1, h2.no c⟩
  | sb q => obtain ⟨A, k, h1, h2⟩ := h; exact ⟨A, k, h1, h2.no c⟩
  | no => trivial
theorem Sl.all {α : Type} {f : α → Value} {w : World} {F : Nat → Prop} {A : Option Addr} {l c : Nat} {xs : List α} (h : Sl w F f A l c xs) : Sl w (fun _ => True) f A l c xs := h.mono (fun _ _ _ => trivial)
theorem SB.all {w : World} {F : Nat → Prop} {A : Option Addr} {l c : Nat} {q : List (List UInt8)} (h : SB w F A l c q) : SB w (fun _ => True) A l c q := h.mono (fun _ _ _ => trivial)
theorem pu_any {P : Program} {Q : Exit → Act → World → Prop} {n : Nat} {e : Env} {w : World} {o : Oper} {d : Nat} {v : Value} {Φ : Value → World → Prop} (hd : o.dst = some d) (hlt : Nat.blt d n = true) (hp : Pu P (· = w) n o e v) (hΦ : Φ v w) : OpE P n o e w Q (fun e' w2 => Ch No w w2 ∧ ∃ v, look d e' = some v ∧ Φ v w2) :=
  fun a F => .inl (by
    simp only [Oper.wp, hp a F w rfl, Oper.upon, hd]
    exact ⟨_, F.put hlt v, Ch.refl _ _, v, by rw [look_cons, if_pos rfl], hΦ⟩)
theorem blk_hashes (hs : List (List UInt8)) : ((hs.map fun h => (Value.agg (h.map u8v).toArray)).flatMap fun v => v.cells.toList) = hs.flatten.map u8v := by
  induction hs with
  | nil => rfl
  | cons h r ih => rw [List.map_cons, List.flatMap_cons, ih, List.flatten_cons, List.map_append]; rfl
theorem rng_hash {w : World} {g : Nat} {t : TypeId} {hs : List (List UInt8)} (h : Blk w g t (hs.flatten.map u8v).toArray) (h32 : ∀ x ∈ hs, x.length = 32) {i : Nat} (hi : i < hs.length) : w.rangeAt g (0 + i * 32) ((hs.getD i []).map u8v) := by
  refine rng_blk h ?_
  have key : ∀ (hs : List (List UInt8)) (i : Nat), (∀ x ∈ hs, x.length = 32) → i < hs.length → (hs.flatten.drop (i * 32)).take 32 = hs.getD i [] := by
    intro hs
    induction hs with
    | nil => intro i _ h; simp at h
    | cons x r ih =>
      intro i hx hi
      have hl := hx x (by simp)
      cases i with
      | zero => simp [hl]
      | succ i =>
        rw [List.flatten_cons, show (i + 1) * 32 = x.length + i * 32 by rw [hl]; omega, ← List.drop_drop, List.drop_left]
        exact ih i (fun y hy => hx y (by simp [hy])) (by simpa using hi)
  have hm : (hs.getD i []).length = 32 := h32 _ (getD_memL hi)
  rw [List.length_map, hm, Nat.zero_add]
  show ((hs.flatten.map u8v).drop (i * 32)).take 32 = _
  rw [← List.map_drop, ← List.map_take, key hs i h32 hi]
/-- The inputs and the hashes of seven kinds. -/
def tagIn (a x y : List UInt8) : List (List UInt8) := [[0] ++ [a].flatten, [1] ++ [x, y].flatten, [2] ++ [a].flatten, [3] ++ [x, y].flatten, [4] ++ [[7], x, y].flatten, [5] ++ ([] : List (List UInt8)).flatten, [6] ++ [a].flatten]
def tagHs (a x y : List UInt8) : List (List UInt8) := [leafH a, nodeH x y, keyH a, itemH x y, forkH 7 x y, noneH, valH a]
theorem tagHs_eq (a x y : List UInt8) : tagHs a x y = (tagIn a x y).map shaF := by
  simp only [tagHs, tagIn, List.map_cons, List.map_nil, leaf_of, node_of, key_of, item_of, fork_of, none_of_, val_of]
theorem tagHs_len (a x y : List UInt8) : ∀ z ∈ tagHs a x y, z.length = 32 := fun z hz => by
  rw [tagHs_eq] at hz
  obtain ⟨q, _, rfl⟩ := List.mem_map.1 hz
  exact shaF_len q
theorem tagHs_at (a x y : List UInt8) {i : Nat} (h : i < 7) : (tagHs a x y).getD i [] = shaF ((tagIn a x y).getD i []) := by
  have hl : (tagIn a x y).length = 7 := rfl
  rw [tagHs_eq]
  simp only [List.getD, List.getElem?_map, List.getElem?_eq_getElem (show i < (tagIn a x y).length by omega), Option.map_some, Option.getD_some]
theorem tagIn_head (a x y : List UInt8) : ∀ {i : Nat}, i < 7 → ((tagIn a x y).getD i []).head? = some (UInt8.ofNat i) := by
  intro i h
  match i, h with
  | 0, _ => rfl
  | 1, _ => rfl
  | 2, _ => rfl
  | 3, _ => rfl
  | 4, _ => rfl
  | 5, _ => rfl
  | 6, _ => rfl
theorem tagIn_ne (a x y : List UInt8) {i k : Nat} (hi : i < 7) (hk : k < i) : ((str ((tagIn a x y).getD i [])).toList == (str ((tagIn a x y).getD k [])).toList) = false := by
  rw [beq_str]
  have : (tagIn a x y).getD i [] ≠ (tagIn a x y).getD k [] := fun e => by
    have h1 := tagIn_head a x y hi
    have h2 := tagIn_head a x y (show k < 7 by omega)
    rw [e, h2] at h1
    have h3 := congrArg UInt8.toNat (Option.some.inj h1)
    simp at h3
    omega
  simpa using this
theorem tagIn_len (a x y : List UInt8) (hx : x.length = 32) (hy : y.length = 32) (ha : a.length ≤ 1000) {i : Nat} (hi : i < 7) : ((tagIn a x y).getD i []).length ≤ 2000 := by
  match i, hi with
  | 0, _ => simp [tagIn]; omega
  | 1, _ => simp [tagIn, hx, hy]
  | 2, _ => simp [tagIn]; omega
  | 3, _ => simp [tagIn, hx, hy]
  | 4, _ => simp [tagIn, hx, hy]
  | 5, _ => simp [tagIn]
  | 6, _ => simp [tagIn]; omega
theorem apart_end {a b : List UInt8} : (((str ([0] ++ [a].flatten)).toList == (str ([0] ++ [b].flatten)).toList) == ((str a).toList == (str b).toList)) = true := by
  rw [beq_str, beq_str]
  by_cases h : a = b
  · subst h; simp
  · have h2 : (a == b) = false := by simpa using h
    rw [h2]
    simpa using h
theorem sb7 {w : World} {E : TypeId} {g : Nat} {A0 A1 A2 A3 A4 A5 A6 : Option Addr} {l0 l1 l2 l3 l4 l5 l6 c0 c1 c2 c3 c4 c5 c6 : Nat} {x0 x1 x2 x3 x4 x5 x6 : List UInt8} {F : Nat → Prop}
    (h : Blk w g E #[.slice A0 l0 c0, .slice A1 l1 c1, .slice A2 l2 c2, .slice A3 l3 c3, .slice A4 l4 c4, .slice A5 l5 c5, .slice A6 l6 c6]) (h0 : Sl w F u8v A0 l0 c0 x0) (h1 : Sl w F u8v A1 l1 c1 x1) (h2 : Sl w F u8v A2 l2 c2 x2) (h3 : Sl w F u8v A3 l3 c3 x3) (h4 : Sl w F u8v A4 l4 c4 x4) (h5 : Sl w F u8v A5 l5 c5 x5) (h6 : Sl w F u8v A6 l6 c6 x6) : SB w (fun k => k < w.heap.size) (some ⟨g, 0, none⟩) 7 7 [x0, x1, x2, x3, x4, x5, x6] :=
  SB.of (qs := [(A0, l0, c0), (A1, l1, c1), (A2, l2, c2), (A3, l3, c3), (A4, l4, c4), (A5, l5, c5), (A6, l6, c6)]) h rfl (fun i hi => match i, hi with | 0, _ => ⟨_, h0⟩ | 1, _ => ⟨_, h1⟩ | 2, _ => ⟨_, h2⟩ | 3, _ => ⟨_, h3⟩ | 4, _ => ⟨_, h4⟩ | 5, _ => ⟨_, h5⟩ | 6, _ => ⟨_, h6⟩)
/-- A slice literal of elements of one size, all given, in order. -/
theorem run_bslH {P : Program} {t E : TypeId} {sz : Nat} {vs : List Value} (hu : P.underlying t = some (.slice E)) (hs : (P.info? E).map (·.size) = some sz) (hz : ((P.info? E).bind (·.zero)).isSome = true) (h0 : 0 < sz) (hv : ∀ v ∈ vs, v.cells.size = sz) (hne : 0 < vs.length) (hsm : vs.length * sz ≤ 2 ^ 24) (w : World) :
    (Instr.buildSlice t vs.length ((vs.zipIdx 0).map fun x => (x.2, x.1)).toArray).run P w = .ok (.slice (some ⟨w.heap.size, 0, none⟩) vs.length vs.length) (w.alloc (.cells (vs.flatMap fun v => v.cells.toList).toArray E)) := by
  cases hie : P.info? E with
  | none => simp [hie] at hs
  | some ie =>
    simp only [hie, Option.map_some, Option.some.injEq, Option.bind_some] at hs hz
    obtain ⟨z, hzz⟩ := Option.isSome_iff_exists.1 hz
    have hp : 0 < vs.length * sz := Nat.mul_pos hne h0
    refine run_buildSlice w t E vs.length _ _ ie z hu hie hzz (by rw [hs]; omega) (by rw [hs]; omega) ?_
    rw [hs]
    exact Great.fill_whole h0 vs _ hv (by simp)
theorem hv_sizes {hs : List (List UInt8)} (h : ∀ x ∈ hs, x.length = 32) : ∀ v ∈ hs.map (fun h => Value.agg (h.map u8v).toArray), v.cells.size = 32 := fun v hv => by
  obtain ⟨x, hx, rfl⟩ := List.mem_map.1 hv
  simp [Value.cells, h x hx]
end Go.Gx
