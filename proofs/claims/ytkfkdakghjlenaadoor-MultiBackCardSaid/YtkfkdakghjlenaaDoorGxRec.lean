/-
  Own text: slices of records of several cells: what is read of an element, cuts, rows of one's own that grow by a record.
-/
import Derived.Test.YtkfkdakghjlenaaDoorGxLay
set_option linter.unusedSimpArgs false
set_option linter.unusedVariables false
namespace Go.Gx
open Go.RowKit
/-- How a record lies: n cells each. -/
structure Enc (α : Type) where
  n : Nat
  pos : 0 < n
  f : α → List Value
  ok : α → Prop
  len : ∀ x, ok x → (f x).length = n
  one : ∀ x, ∀ v ∈ f x, v.oneCell' = true
/-- A slice that reads as records. -/
structure SI {α : Type} (w : World) (F : Nat → Prop) (E : Enc α) (A : Option Addr) (l c : Nat) (xs : List α) : Prop where
  rd : Rd w F A (xs.flatMap E.f)
  len : xs.length = l
  cap : l ≤ c
  ok : ∀ x ∈ xs, E.ok x
section
variable {α : Type} {E : Enc α} {xs ys : List α}
theorem flat_len : ∀ {xs : List α}, (∀ x ∈ xs, E.ok x) → (xs.flatMap E.f).length = xs.length * E.n
  | [], _ => by simp
  | x :: r, h => by
    rw [List.flatMap_cons, List.length_append, E.len x (h x (by simp)), flat_len (fun y hy => h y (by simp [hy])), List.length_cons, Nat.succ_mul, Nat.add_comm]
theorem flat_drop : ∀ {xs : List α} {i : Nat}, (∀ x ∈ xs, E.ok x) → (xs.flatMap E.f).drop (i * E.n) = (xs.drop i).flatMap E.f
  | xs, 0, _ => by simp
  | [], i + 1, _ => by simp
  | x :: r, i + 1, h => by
    rw [List.flatMap_cons, Nat.succ_mul, Nat.add_comm, ← E.len x (h x (by simp)), List.drop_length_add_append, E.len x (h x (by simp)), flat_drop (fun y hy => h y (by simp [hy]))]
    rfl
theorem flat_take : ∀ {xs : List α} {i : Nat}, (∀ x ∈ xs, E.ok x) → (xs.flatMap E.f).take (i * E.n) = (xs.take i).flatMap E.f
  | xs, 0, _ => by simp
  | [], i + 1, _ => by simp
  | x :: r, i + 1, h => by
    rw [List.flatMap_cons, Nat.succ_mul, Nat.add_comm, ← E.len x (h x (by simp)), List.take_length_add_append, E.len x (h x (by simp)), flat_take (fun y hy => h y (by simp [hy]))]
    rfl
theorem flat_one : ∀ u ∈ xs.flatMap E.f, u.oneCell' = true := fun u hu => by
  obtain ⟨x, _, h⟩ := List.mem_flatMap.1 hu
  exact E.one x u h
variable {w w' : World} {T F G : Nat → Prop} {A : Option Addr} {l c : Nat}
theorem SI.ch (h : SI w F E A l c xs) (k : Ch T w w') (hn : ∀ i, F i → ¬ T i) : SI w' F E A l c xs := ⟨h.rd.ch k hn, h.len, h.cap, h.ok⟩
theorem SI.no (h : SI w F E A l c xs) (k : Ch No w w') : SI w' F E A l c xs := h.ch k (fun _ _ h => h)
theorem SI.mono (h : SI w F E A l c xs) (hF : ∀ k, k < w.heap.size → F k → G k) : SI w G E A l c xs := ⟨h.rd.mono hF, h.len, h.cap, h.ok⟩
theorem SI.chT (h : SI w F E A l c xs) (k : Ch T w w') (hn : ∀ i, i < w.heap.size → F i → ¬ T i) : SI w' (fun i => F i ∧ i < w.heap.size) E A l c xs := (h.mono (G := fun i => F i ∧ i < w.heap.size) (fun i hi hF => ⟨hF, hi⟩)).ch k (fun i hF => hn i hF.2 hF.1)
theorem SI.old (h : SI w F E A l c xs) : SI w (fun k => k < w.heap.size) E A l c xs := h.mono fun _ h _ => h
theorem SI.nil : SI w F E (none : Option Addr) 0 0 [] := ⟨.nil, rfl, Nat.le_refl _, by simp⟩
theorem SI.opn (h : SI w F E A l c xs) {d : α} {i : Nat} (hi : i < l) : ∃ b o, A = some ⟨b, o, none⟩ ∧ F b ∧ w.rangeAt b (o + i * E.n) (E.f (xs.getD i d)) := by
  have hil : i < xs.length := by rw [h.len]; exact hi
  have hx : xs.getD i d = xs[i] := by simp [List.getD, List.getElem?_eq_getElem hil]
  have hlx := E.len xs[i] (h.ok _ (List.getElem_mem hil))
  rcases h.rd with h1 | ⟨b, o, hA, hF, hc⟩
  · have h3 := List.flatMap_eq_nil_iff.1 h1 xs[i] (List.getElem_mem hil)
    rw [h3] at hlx
    have := E.pos
    simp at hlx; omega
  · refine ⟨b, o, hA, hF, fun j v hv => ?_⟩
    rw [hx] at hv
    rw [Nat.add_assoc]
    refine hc _ v ?_
    have hj : j < E.n := by
      have := (List.getElem?_eq_some_iff.1 hv).1
      rwa [hlx] at this
    have h4 : ((xs.flatMap E.f).drop (i * E.n))[j]? = some v := by
      rw [flat_drop h.ok, List.drop_eq_getElem_cons hil, List.flatMap_cons, List.getElem?_append_left (by rw [hlx]; exact hj)]
      exact hv
    rwa [List.getElem?_drop] at h4
theorem SI.cut (h : SI w F E A l c xs) {lo hi q : Nat} (h1 : lo ≤ hi) (h2 : hi ≤ l) (hq : hi - lo = q := by rfl) : SI w F E (cutA A c lo E.n) q (c - lo) ((xs.drop lo).take q) := by
  subst hq
  have hl := h.len; have hc := h.cap
  refine ⟨?_, by rw [List.length_take, List.length_drop]; omega, by omega, fun x hx => h.ok x (List.mem_of_mem_drop (List.mem_of_mem_take hx))⟩
  have := (h.rd.cut (c := c) (l := lo) (sz := E.n) (by rw [flat_len h.ok, hl]; exact Nat.mul_le_mul_right _ hc)).take ((hi - lo) * E.n)
  rwa [flat_drop h.ok, flat_take (fun x hx => h.ok x (List.mem_of_mem_drop hx))] at this
theorem SI.cutTo (h : SI w F E A l c xs) {lo : Nat} (h1 : lo ≤ l) : SI w F E (cutA A c lo E.n) (l - lo) (c - lo) (xs.drop lo) := by
  have := h.cut (lo := lo) (hi := l) h1 (Nat.le_refl _)
  rwa [List.take_of_length_le (by rw [List.length_drop, h.len]; exact Nat.le_refl _)] at this
theorem SI.head (h : SI w F E A l c xs) {hi : Nat} (h2 : hi ≤ l) : SI w F E A hi c (xs.take hi) := by
  refine ⟨?_, by rw [List.length_take, h.len]; omega, by have := h.cap; omega, fun x hx => h.ok x (List.mem_of_mem_take hx)⟩
  have := h.rd.take (hi * E.n)
  rwa [flat_take h.ok] at this
theorem SI.one {g : Nat} {t : TypeId} {x : α} {cs : Array Value} (hb : Blk w g t cs) (hc : cs.toList = E.f x) (hx : E.ok x) : SI w (fun k => k = g) E (some ⟨g, 0, none⟩) 1 1 [x] := by
  refine ⟨?_, rfl, Nat.le_refl _, by simpa using hx⟩
  have := Rd.of_lit hb
  rwa [hc, show E.f x = [x].flatMap E.f by simp] at this
/-- A row of one's own that grows by records. -/
structure RI {α : Type} (w : World) (F : Nat → Prop) (t : TypeId) (E : Enc α) (A : Option Addr) (l c : Nat) (xs : List α) : Prop where
  row : Row w F t E.n (.slice A l c) l (xs.flatMap E.f)
  ok : ∀ x ∈ xs, E.ok x
section
variable {t : TypeId}
theorem RI.nil (w : World) (F : Nat → Prop) (t : TypeId) (E : Enc α) : RI w F t E none 0 0 [] := ⟨Row.nil w F t E.n, by simp⟩
theorem RI.len (h : RI w F t E A l c xs) : xs.length = l := by
  have h1 := h.row.len
  rw [flat_len h.ok] at h1
  exact Nat.eq_of_mul_eq_mul_right E.pos h1
theorem RI.si (h : RI w F t E A l c xs) : SI w F E A l c xs := ⟨h.row.rd, h.len, h.row.cap_, h.ok⟩
theorem RI.mono (h : RI w F t E A l c xs) (hF : ∀ k, k < w.heap.size → F k → G k) : RI w G t E A l c xs := ⟨h.row.mono hF, h.ok⟩
theorem RI.ch (h : RI w F t E A l c xs) (k : Ch T w w') (hn : ∀ k, k < w.heap.size → F k → ¬ T k) : RI w' F t E A l c xs := ⟨h.row.ch k hn, h.ok⟩
theorem RI.no (h : RI w F t E A l c xs) (k : Ch No w w') : RI w' F t E A l c xs := ⟨h.row.no k, h.ok⟩
theorem RI.after (h : RI w F t E A l c xs) (k : Ch No w w') : RI w' (fun i => F i ∧ (i < w.heap.size ∨ w'.heap.size ≤ i)) t E A l c xs := ⟨h.row.after k, h.ok⟩
theorem RI.afterT (h : RI w F t E A l c xs) (k : Ch T w w') (hn : ∀ i, i < w.heap.size → F i → ¬ T i) : RI w' (fun i => F i ∧ (i < w.heap.size ∨ w'.heap.size ≤ i)) t E A l c xs := ⟨h.row.afterT k hn, h.ok⟩
/-- A row's block is of its element's type. -/
theorem RI.ty (h : RI w F t E A l c xs) (k : Ch T w w') {N : TypeId} (hN : N ≠ t) (hT : ∀ i, T i → ∃ cs, Blk w i N cs) : RI w' F t E A l c xs := by
  obtain ⟨⟨⟨h1, h2⟩, h3⟩, h4⟩ := h
  refine ⟨⟨⟨h1, ?_⟩, h3⟩, h4⟩
  rcases h2 with h2 | ⟨g, cap, cur, e, hb, hg, r⟩
  · exact .inl h2
  · have hlt : g < w.heap.size := Blk.lt (t := t) hg
    refine .inr ⟨g, cap, cur, e, hb, (k.block g hlt (fun ht => ?_)).trans hg, r⟩
    obtain ⟨cs, hcs⟩ := hT g ht
    have h5 := hcs.symm.trans hg
    injection h5 with h5
    injection h5 with _ h5
    exact hN h5
end
end
section
variable {P : Program} {Q : Exit → Act → World → Prop} {n d : Nat} {e : Env} {w : World} {K : Env → World → Prop} {rt : TypeId} {pos : String} {af : Array Edge} {gd : Option (Nat × Bool)}
/-- append onto a row of records. -/
theorem e_appI {α : Type} {E : Enc α} {t u : TypeId} {a b : Operand} {by_ : Nat} {A B : Option Addr} {l m c c' : Nat} {ys xs : List α} {F Fx : Nat → Prop} (hlt : Nat.blt d n = true) (ht : ElT P t u E.n by_) (hs : ev e a = some (.slice B l c')) (hx : ev e b = some (.slice A m c)) (R : RI w F u E B l c' ys) (X : SI w Fx E A m c xs)
    (hb : (l + m) * by_ ≤ 140737488355328) (hF : ∀ k, w.heap.size ≤ k → F k)
    (k : ∀ w' A' c', RI w' F u E A' (l + m) c' (ys ++ xs) → Ch F w w' → K ((d, .slice A' (l + m) c') :: e) w') (h63 : l + m ≤ maxLen := by unfold maxLen; omega) : OpE P n ⟨some d, .call { callee := .builtin .append, args := #[a, b], argTypes := #[t, t] }, rt, pos, af, gd⟩ e w Q K :=
  e_app hlt ht hs hx R.row X.rd (by rw [flat_len X.ok, X.len]) flat_one hb h63 hF (fun w' v' h c => by
    obtain ⟨A', c', rfl⟩ := h.shape
    exact k w' A' c' ⟨by rw [List.flatMap_append]; exact h, fun x hx => (List.mem_append.1 hx).elim (R.ok x) (X.ok x)⟩ c)
end
section
variable {P : Program} {Q : Exit → Act → World → Prop} {n d : Nat} {e : Env} {w : World} {K : Env → World → Prop} {rt : TypeId} {pos : String} {af : Array Edge} {gd : Option (Nat × Bool)}
/-- A list of one record, cs' being its cells, one by one. -/
theorem e_bslX {t E : TypeId} {parts : Array (Nat × Operand)} {cs cs' : List Value} (hlt : Nat.blt d n = true) (hvs : evs e (parts.toList.map (·.2)) = some [.agg cs.toArray]) (hc : cs = cs')
    (hr : ∀ w, (Instr.buildSlice t 1 ((parts.toList.map (·.1)).zip [Value.agg cs'.toArray]).toArray).run P w = .ok (.slice (some ⟨w.heap.size, 0, none⟩) 1 1) (w.alloc (.cells ([Value.agg cs'.toArray].flatMap fun v => v.cells.toList).toArray E)))
    (k : ∀ w' g, g = w.heap.size → Blk w' g E ([Value.agg cs.toArray].flatMap fun v => v.cells.toList).toArray → Ch No w w' → w'.heap.size = g + 1 → K ((d, .slice (some ⟨g, 0, none⟩) 1 1) :: e) w') : OpE P n ⟨some d, .buildSlice t 1 parts, rt, pos, af, gd⟩ e w Q K := by
  subst hc
  exact e_bslC hlt hvs hr k
end
section
variable {w : World} {b o : Nat} {cs p q r : List Value} {v : Value}
/-- A part of a record that is known. -/
theorem rng_sub (h : w.rangeAt b o cs) (he : cs = p ++ (q ++ r)) {j : Nat} (hp : p.length = j) : w.rangeAt b (o + j) q := by
  subst he hp
  intro i u hu
  have hi := (List.getElem?_eq_some_iff.1 hu).1
  have := h (p.length + i) u (by
    rw [List.getElem?_append_right (by omega), Nat.add_sub_cancel_left, List.getElem?_append_left hi]; exact hu)
  rwa [← Nat.add_assoc] at this
theorem cell_sub (h : w.rangeAt b o cs) (he : cs = p ++ v :: r) {j : Nat} (hp : p.length = j) : w.cell? ⟨b, o + j, none⟩ = some v := by
  subst he hp
  refine h p.length v ?_
  rw [List.getElem?_append_right (by omega), Nat.sub_self]
  rfl
theorem rng_no {w' : World} (h : w.rangeAt b o cs) (c : Ch No w w') : w'.rangeAt b o cs := fun i u hu => c.cell (fun h => h) (h i u hu)
end
/-! ### Records compared -/
section
variable {P : Program} {cs p r : List Value} {v : Value} {L : List UInt8} {o m : Nat}
theorem part_c {t : TypeId} {D : TypeDesc} (ht : P.underlying t = some D) (hf : flatT D = true) (he : cs = p ++ v :: r) (hp : p.length = o) : ∀ w, (part t cs.toArray o).run P w = .ok v w := fun w => run_part_flat ht hf (by
  subst he hp
  rw [List.getElem?_toArray, List.getElem?_append_right (Nat.le_refl _), Nat.sub_self]
  rfl)
theorem part_h {t : TypeId} {D : TypeDesc} (ht : P.underlying t = some D) (hf : flatT D = false) (hi : (P.info? t).map (·.size) = some m) (hl : L.length = m) (he : cs = p ++ (List.map u8v L ++ r)) (hp : p.length = o) : ∀ w, (part t cs.toArray o).run P w = .ok (hv L) w := fun w => by
  rw [run_part_agg ht hf hi]
  subst he hp hl
  congr 2
  apply Array.toList_inj.1
  rw [List.extract_toArray]
  show ((p ++ (List.map u8v L ++ r)).extract p.length (p.length + L.length)) = _
  rw [List.extract_eq_take_drop, List.drop_left, Nat.add_sub_cancel_left, ← List.length_map (f := u8v) (as := L), List.take_left]
end
end Go.Gx
