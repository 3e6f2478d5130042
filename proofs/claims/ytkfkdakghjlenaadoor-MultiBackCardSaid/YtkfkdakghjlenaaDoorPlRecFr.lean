/-
  Own text: what came in, read as records: items, hashes, steps, a proof, acts. Over any program.
-/
import Derived.Test.YtkfkdakghjlenaaDoorGxFrame
import Derived.Test.YtkfkdakghjlenaaDoorPlEncs
set_option linter.unusedSimpArgs false
set_option linter.unusedVariables false
namespace Go.Gx
open Go.RowKit Go.ChangeShapes Go.WideShapes Go.ChangeAt Go.Plain
section
variable {H : Type} {enc : TypeId × Value → H} {P : Program} {w : World} {held : Bool} {fuel : Nat} {t : TypeId} {cs : List Value} {d : DataW H} {p : List MemPlace}
theorem Light.fieldsR {fs : Array Field} {ps : List (DataW H)} (hu : P.underlying t = some (.struct fs)) (h : Light P t (.agg ps)) {i : Nat} {f : Field} {x : DataW H} (hf : fs[i]? = some f) (hx : ps[i]? = some x) : Light P f.type x := fun n hn => h n (by
  simp only [DataW.weights, hu]
  exact DataW.weights_mem_each (j := i) (by rw [List.getElem?_map, Array.getElem?_toList, hf]; rfl) hx n hn)
/-- A struct's fields, opened. -/
theorem tr_fld {fs : Array Field} (hu : P.underlying t = some (.struct fs)) (h : DataW.trod enc P w 0 (fun _ => true) held fuel t cs = some (d, p)) (hz : Light P t d) :
    cs.length = P.cellsOf t ∧ ∀ (i : Nat) (f : Field), fs[i]? = some f → ∃ m d' p', DataW.trod enc P w 0 (fun _ => true) held m f.type ((cs.drop f.offset).take (P.cellsOf f.type)) = some (d', p') ∧ Light P f.type d' := by
  obtain ⟨xs, n, _, hx, hl, hxl, hf⟩ := DataW.trod_struct hu h
  injection hx with hd _
  subst hd
  refine ⟨hl, fun i f hfi => ?_⟩
  have h1 := hf i f hfi
  have hi : i < xs.length := by
    have := (Array.getElem?_eq_some_iff.1 hfi).1
    rw [hxl]; exact this
  rw [List.getElem?_eq_getElem hi] at h1
  exact ⟨n, _, _, h1, Light.fieldsR hu hz hfi (by rw [List.getElem?_map, List.getElem?_eq_getElem hi]; rfl)⟩
theorem flat_get {α : Type} {E : Enc α} : ∀ {xs : List α} {i : Nat} {v : Value}, (∀ x ∈ xs, E.ok x) → (xs.flatMap E.f)[i]? = some v → ∃ q r x, i = q * E.n + r ∧ xs[q]? = some x ∧ (E.f x)[r]? = some v
  | [], i, v, _, h => by simp at h
  | x :: r, i, v, hok, h => by
    have hl := E.len x (hok x (by simp))
    rw [List.flatMap_cons] at h
    by_cases hi : i < E.n
    · rw [List.getElem?_append_left (by omega)] at h
      exact ⟨0, i, x, by simp, rfl, h⟩
    · rw [List.getElem?_append_right (by omega), hl] at h
      obtain ⟨q, s, y, h1, h2, h3⟩ := flat_get (fun y hy => hok y (by simp [hy])) h
      exact ⟨q + 1, s, y, by rw [Nat.succ_mul]; omega, by simpa using h2, h3⟩
/-- A slice of records. -/
theorem tr_recs {α : Type} {E : Enc α} {e : TypeId} (hu : P.underlying t = some (.slice e)) (hn : P.cellsOf e = E.n)
    (hrec : ∀ (m : Nat) (el : List Value) (d' : DataW H) (p' : List MemPlace), DataW.trod enc P w 0 (fun _ => true) held m e el = some (d', p') → Light P e d' → ∃ x, el = E.f x ∧ E.ok x)
    (h : DataW.trod enc P w 0 (fun _ => true) held fuel t cs = some (d, p)) (hz : Light P t d) : ∃ A l k xs, cs = [.slice A l k] ∧ SI w (fun _ => True) E A l k xs ∧ k * P.bytesOf e ≤ 140737488351232 := by
  obtain ⟨A, l, k, els, rfl, hl, hlen, hk, hel, htr⟩ := tr_slice hu hn h hz
  have each : ∀ el ∈ els, ∃ x, el = E.f x ∧ E.ok x := fun el hm => by
    obtain ⟨m, d', p', h1, h2⟩ := htr el hm
    exact hrec m el d' p' h1 h2
  have lift : ∀ els : List (List Value), (∀ el ∈ els, ∃ x, el = E.f x ∧ E.ok x) → ∃ xs : List α, els = xs.map E.f ∧ ∀ x ∈ xs, E.ok x := by
    intro els
    induction els with
    | nil => exact fun _ => ⟨[], rfl, by simp⟩
    | cons el r ih =>
      intro h
      obtain ⟨x, h1, h2⟩ := h el (by simp)
      obtain ⟨xs, h3, h4⟩ := ih (fun y hy => h y (by simp [hy]))
      exact ⟨x :: xs, by rw [h1, h3]; rfl, by simpa using ⟨h2, h4⟩⟩
  obtain ⟨xs, rfl, hok⟩ := lift els each
  refine ⟨A, l, k, xs, rfl, ⟨?_, by simpa using hlen, hl, hok⟩, hk⟩
  rcases xs with _ | ⟨x, rest⟩
  · exact .inl rfl
  · obtain ⟨a, rfl, _⟩ := hel 0 (E.f x) rfl
    have hc' : ∀ i v, ((x :: rest).flatMap E.f)[i]? = some v → w.cell? (a.add i) = some v := fun i v hv => by
      obtain ⟨q, r, y, h1, h2, h3⟩ := flat_get hok hv
      obtain ⟨a', ha, _, hcell⟩ := hel q (E.f y) (by rw [List.getElem?_map, h2]; rfl)
      cases ha
      have h5 := hcell r v h3
      rwa [Addr.add_add, ← h1] at h5
    have := rd_of (f := fun v : Value => v) (a := a) (l := (x :: rest).flatMap E.f) hc'
    rwa [List.map_id'] at this
/-- A key and its value. -/
theorem tr_item {f0 f1 : Field} {b0 b1 : TypeId} (hu : P.underlying t = some (.struct #[f0, f1])) (hn : P.cellsOf t = 64) (ho : (f0.offset, f1.offset) = (0, 32)) (hc : (P.cellsOf f0.type, P.cellsOf f1.type) = (32, 32))
    (u0 : P.underlying f0.type = some (.array 32 b0)) (u1 : P.underlying f1.type = some (.array 32 b1)) (v0 : P.underlying b0 = some (.int .u8)) (v1 : P.underlying b1 = some (.int .u8)) (k0 : P.cellsOf b0 = 1) (k1 : P.cellsOf b1 = 1)
    (h : DataW.trod enc P w 0 (fun _ => true) held fuel t cs = some (d, p)) (hz : Light P t d) : ∃ x, cs = eIT.f x ∧ eIT.ok x := by
  obtain ⟨hl, hf⟩ := tr_fld hu h hz
  simp only [Prod.mk.injEq] at ho hc
  obtain ⟨m0, d0, p0, h0, z0⟩ := hf 0 f0 rfl
  obtain ⟨m1, d1, p1, h1, z1⟩ := hf 1 f1 rfl
  obtain ⟨a, ea, la⟩ := tr_hash u0 v0 k0 hc.1 h0 z0
  obtain ⟨b, eb, lb⟩ := tr_hash u1 v1 k1 hc.2 h1 z1
  rw [ho.1, hc.1, List.drop_zero] at ea
  rw [ho.2, hc.2, List.take_of_length_le (by rw [List.length_drop, hl, hn]; omega)] at eb
  refine ⟨(a, b), ?_, la, lb⟩
  show cs = List.map u8v a ++ List.map u8v b
  rw [← ea, ← eb, List.take_append_drop]
end
end Go.Gx
