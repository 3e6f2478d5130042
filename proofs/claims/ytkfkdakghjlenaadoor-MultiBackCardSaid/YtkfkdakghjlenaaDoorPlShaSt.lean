/-
  Own text: the cells of a sum's state in memory: eight words, sixty-four bytes, a count, a truth; what is read and stored there. Over any program.
-/
import Derived.Test.YtkfkdakghjlenaaDoorPlSha
set_option linter.unusedSimpArgs false
set_option linter.unusedVariables false
namespace Go.Gx
open Go.RowKit Go.Plain
def stt (h : List W32) (rest : List UInt8) (n : Nat) (made : Bool) : Array Value := (h.map u32v ++ (rest.map u8v ++ [i64 (n : Int), .bool made])).toArray
section
variable {h : List W32} {rest : List UInt8} {n : Nat} {made : Bool} {w : World} {g : Nat} {t : TypeId}
theorem stt_size (hh : h.length = 8) (hr : rest.length = 64) : (stt h rest n made).size = 74 := by simp [stt, hh, hr]
theorem stt_h (hh : h.length = 8) {i : Nat} (hi : i < 8) : (stt h rest n made)[i]? = some (u32v (h.getD i 0#32)) := by
  rw [stt, List.getElem?_toArray, List.getElem?_append_left (by rw [List.length_map, hh]; exact hi), List.getElem?_map, List.getElem?_eq_getElem (by omega)]
  simp [List.getD, List.getElem?_eq_getElem (show i < h.length by omega)]
theorem stt_r (hh : h.length = 8) {j : Nat} {x : Value} (hx : (rest.map u8v)[j]? = some x) : (stt h rest n made)[8 + j]? = some x := by
  have hj : j < (rest.map u8v).length := (List.getElem?_eq_some_iff.1 hx).1
  rw [stt, List.getElem?_toArray, List.getElem?_append_right (by rw [List.length_map, hh]; omega), List.length_map, hh, Nat.add_sub_cancel_left, List.getElem?_append_left hj, hx]
theorem stt_n (hh : h.length = 8) (hr : rest.length = 64) : (stt h rest n made)[72]? = some (i64 (n : Int)) := by
  rw [stt, List.getElem?_toArray, List.getElem?_append_right (by rw [List.length_map, hh]; omega), List.length_map, hh, List.getElem?_append_right (by rw [List.length_map, hr]; omega), List.length_map, hr]; rfl
theorem stt_set_h (hh : h.length = 8) {i : Nat} {x : W32} (hi : i < 8) : (stt h rest n made).setIfInBounds i (u32v x) = stt (h.set i x) rest n made := by
  apply Array.toList_inj.1
  rw [Array.toList_setIfInBounds, stt, stt, List.set_append_left _ _ (by rw [List.length_map, hh]; exact hi), List.map_set]
theorem stt_set_n (hh : h.length = 8) (hr : rest.length = 64) {m : Nat} : (stt h rest n made).setIfInBounds 72 (i64 (m : Int)) = stt h rest m made := by
  apply Array.toList_inj.1
  rw [Array.toList_setIfInBounds, stt, stt, List.set_append_right _ _ (by rw [List.length_map, hh]; omega), List.length_map, hh, List.set_append_right _ _ (by rw [List.length_map, hr]; omega), List.length_map, hr]; rfl
theorem stt_rng (hb : Blk w g t (stt h rest n made)) (hh : h.length = 8) : w.rangeAt g 0 (h.map u32v) := rng_blk hb (by
  rw [List.drop_zero, List.length_map, hh, stt]
  exact List.take_left' (by rw [List.length_map, hh]))
theorem stt_all (hb : Blk w g t (stt h rest n made)) : w.rangeAt g 0 (stt h rest n made).toList := rng_blk hb (by rw [List.drop_zero, List.take_length])
theorem stt_sl (hb : Blk w g t (stt h rest n made)) (hh : h.length = 8) (hr : rest.length = 64) : Sl w (fun k => k = g) u8v (some ⟨g, 8, none⟩) 64 64 rest :=
  ⟨.inr ⟨g, 8, rfl, rfl, fun j u hj => hb.cell (stt_r hh hj)⟩, hr, Nat.le_refl _⟩
end
section
variable {P : Program} {Q : Exit → Act → World → Prop} {S : World → Prop} {n : Nat} {e : Env} {w : World} {rt : TypeId} {pos : String} {af : Array Edge} {gd : Option (Nat × Bool)} {d : Nat} {dst : Option Tmp} {K : Env → World → Prop}
/-- A word of the state is stored. -/
theorem e_stSh {t : TypeId} {a b : Operand} {g i : Nat} {E : TypeId} {h : List W32} {rest : List UInt8} {m : Nat} {made : Bool} {x : W32} (hi : (P.info? t).map (·.size) = some 1) (hx : ev e a = some (.pointer (some ⟨g, 0 + i, none⟩))) (hy : ev e b = some (u32v x)) (hb : Blk w g E (stt h rest m made)) (hh : h.length = 8) (hr : rest.length = 64) (h8 : i < 8)
    (k : ∀ w', Blk w' g E (stt (h.set i x) rest m made) → Ch (fun k => k = g) w w' → w'.heap.size = w.heap.size → K e w') : OpE P n ⟨none, .store t a b, rt, pos, af, gd⟩ e w Q K := by
  rw [Nat.zero_add] at hx
  exact e_st hi rfl hx hy hb (by rw [stt_size hh hr]; omega) (fun w' h' => k w' (stt_set_h hh h8 ▸ h'))
/-- The state's count is stored. -/
theorem e_stSn {t : TypeId} {a b : Operand} {g : Nat} {E : TypeId} {h : List W32} {rest : List UInt8} {m m' : Nat} {made : Bool} (hi : (P.info? t).map (·.size) = some 1) (hx : ev e a = some (.pointer (some ⟨g, 72, none⟩))) (hy : ev e b = some (i64 (m' : Int))) (hb : Blk w g E (stt h rest m made)) (hh : h.length = 8) (hr : rest.length = 64)
    (k : ∀ w', Blk w' g E (stt h rest m' made) → Ch (fun k => k = g) w w' → w'.heap.size = w.heap.size → K e w') : OpE P n ⟨none, .store t a b, rt, pos, af, gd⟩ e w Q K :=
  e_st hi rfl hx hy hb (by rw [stt_size hh hr]; omega) (fun w' h' => k w' (stt_set_n hh hr ▸ h'))
/-- A copy into a block that is known whole. -/
theorem e_copyG {α : Type} {f : α → Value} {t t' E E' : TypeId} {a b : Operand} {g o m c l c' : Nat} {A : Option Addr} {cs : Array Value} {xs : List α} {F : Nat → Prop} (hlt : Nat.blt d n = true) (ht : P.underlying t = some (.slice E)) (hsz : (P.info? E).map (·.size) = some 1) (hf : ∀ x, (f x).oneCell' = true)
    (hx : ev e a = some (.slice (some ⟨g, o, none⟩) m c)) (hy : ev e b = some (.slice A l c')) (hb : Blk w g E' cs) (X : Sl w F f A l c' xs) (ho : o + m ≤ cs.size)
    (k : ∀ w', Blk w' g E' (cs.toList.take o ++ (xs.take (min l m)).map f ++ cs.toList.drop (o + min l m)).toArray → Ch (fun k => k = g) w w' → w'.heap.size = w.heap.size → K ((d, i64 ((min l m : Nat) : Int)) :: e) w') : OpE P n ⟨some d, .call { callee := .builtin .copy, args := #[a, b], argTypes := #[t, t'] }, rt, pos, af, gd⟩ e w Q K := by
  obtain ⟨inf, hinf, hs1⟩ := Option.map_eq_some_iff.1 hsz
  have hlen : (xs.take (min l m)).length = min l m := by rw [List.length_take, X.len]; omega
  obtain ⟨q, hq⟩ : ∃ q, q = min l m := ⟨_, rfl⟩
  have hq' : Nat.min l m = q := hq.symm
  have hqm : q ≤ m := by omega
  have X2 := X.rd.take q
  rw [← List.map_take] at X2
  rw [← hq] at hlen k
  generalize xs.take q = ys at X2 hlen k
  have hfirst : (Builtin.firstCells 1 q (.slice A l c')).run P w = .ok (ys.map f).toArray w := by
    rcases X2 with h | ⟨b', o', rfl, _, hc⟩
    · have h0 : ys = [] := by simpa using h
      subst h0
      have hq0 : q = 0 := by simpa using hlen.symm
      subst hq0
      cases A <;> simp [Builtin.firstCells, loadCells, loadCellsFrom]
    · exact run_firstCells_some (P := P) (w := w) 1 q ⟨b', o', none⟩ l c' (ys.map f) (by simp [hlen]) (fun j v hj => by rw [Addr.add_mid]; exact hc j v hj)
  have hst := run_storeCells_at P g o E' (ys.map f) 0 cs w hb (by simp [hlen]; omega) (oneL hf _)
  simp only [Nat.add_zero, List.length_map, hlen] at hst
  have hrun : (Builtin.copy_ #[t, t'] rt #[.slice (some ⟨g, o, none⟩) m c, .slice A l c']).run P w = .ok (i64 (q : Int)) (w.setRow g (cs.toList.take o ++ ys.map f ++ cs.toList.drop (o + q)).toArray) := by
    generalize cs.toList.take o ++ ys.map f ++ cs.toList.drop (o + q) = Z at hst
    generalize ys.map f = Y at hst hfirst
    simp [Builtin.copy_, run_underlying ht, Builtin.lenOf, sizeOf, typeInfo, hinf, hs1, hq', hfirst, hst, goInt]
  refine e_of_run rfl hlt (fun a F => ?_) (k _ (setRow_heap w g _ _ E' _ hb) (Ch.setRow w g _) (by simp))
  simp [execOp, resolve, invoke, builtin, F.ev hx, F.ev hy, hrun]
theorem stt_copy {h : List W32} {rest c : List UInt8} {m r : Nat} {made : Bool} (hh : h.length = 8) (hr : rest.length = 64) (hc : r + c.length ≤ 64) : ((stt h rest m made).toList.take (8 + r) ++ c.map u8v ++ (stt h rest m made).toList.drop (8 + r + c.length)).toArray = stt h (lay rest r c) m made := by
  have e1 : (stt h rest m made).toList = h.map u32v ++ (rest.map u8v ++ [i64 (m : Int), .bool made]) := rfl
  have hl : (h.map u32v).length = 8 := by rw [List.length_map, hh]
  have hl2 : (rest.map u8v).length = 64 := by rw [List.length_map, hr]
  apply Array.toList_inj.1
  rw [e1, List.take_append, List.drop_append, hl, List.take_of_length_le (by omega), show 8 + r - 8 = r by omega, show 8 + r + c.length - 8 = r + c.length by omega, List.drop_of_length_le (by omega), List.take_append_of_le_length (by omega), List.drop_append_of_le_length (by omega), lay, stt]
  simp [List.map_take, List.map_drop]
/-- A copy into the state's bytes. -/
theorem e_copySt {t t' E E' : TypeId} {a b : Operand} {g r c l c' : Nat} {A : Option Addr} {h : List W32} {rest : List UInt8} {m : Nat} {made : Bool} {xs : List UInt8} {F : Nat → Prop} (hlt : Nat.blt d n = true) (ht : P.underlying t = some (.slice E)) (hsz : (P.info? E).map (·.size) = some 1)
    (hx : ev e a = some (.slice (some ⟨g, 8 + r, none⟩) (64 - r) c)) (hy : ev e b = some (.slice A l c')) (hb : Blk w g E' (stt h rest m made)) (hh : h.length = 8) (hr : rest.length = 64) (X : Sl w F u8v A l c' xs) (ho : r < 64)
    (k : ∀ w', Blk w' g E' (stt h (lay rest r (xs.take (min l (64 - r)))) m made) → Ch (fun k => k = g) w w' → w'.heap.size = w.heap.size → K ((d, i64 ((min l (64 - r) : Nat) : Int)) :: e) w') : OpE P n ⟨some d, .call { callee := .builtin .copy, args := #[a, b], argTypes := #[t, t'] }, rt, pos, af, gd⟩ e w Q K :=
  e_copyG hlt ht hsz one_u8 hx hy hb X (by rw [stt_size hh hr]; omega) (fun w' hb' => k w' (by
    have hlen : (xs.take (min l (64 - r))).length = min l (64 - r) := by rw [List.length_take, X.len]; omega
    have := stt_copy (c := xs.take (min l (64 - r))) (m := m) (made := made) (r := r) hh hr (by omega)
    rw [hlen] at this
    exact this ▸ hb'))
end
end Go.Gx
