/-
  Own text: two rows of one's own that grow in turns; a row that began as a list of one record; a row's begin.
-/
import Derived.Test.YtkfkdakghjlenaaDoorGxRec
set_option linter.unusedSimpArgs false
set_option linter.unusedVariables false
namespace Go.Gx
open Go.RowKit
section
variable {α : Type} {E : Enc α} {w w' : World} {T F : Nat → Prop} {t : TypeId} {A B : Option Addr} {l l2 c c2 : Nat} {xs ys : List α} {n0 m : Nat}
/-- A row's first records are one's own as well. -/
theorem RI.head (h : RI w F t E A l c xs) {k : Nat} (hk : k ≤ l) : RI w F t E A k c (xs.take k) := by
  have hl := h.len
  obtain ⟨⟨⟨h1, h2⟩, h3⟩, h4⟩ := h
  have hf : (xs.flatMap E.f).take (k * E.n) = (xs.take k).flatMap E.f := flat_take h4
  have h5 : ∀ x ∈ xs.take k, E.ok x := fun x hx => h4 x (List.mem_of_mem_take hx)
  refine ⟨⟨⟨by rw [flat_len h5, List.length_take]; congr 1; omega, ?_⟩, ?_⟩, h5⟩
  · rcases h2 with ⟨e, rfl⟩ | ⟨g, cap, cur, e, hb, hg, hnc, hm, hs, ht⟩
    · obtain rfl : k = 0 := by omega
      exact .inl ⟨e, rfl⟩
    · injection e with e1 e2 e3
      subst e1; subst e3
      refine .inr ⟨g, _, cur, rfl, hb, hg, by omega, hm, hs, ?_⟩
      rw [← hf, ← ht, List.take_take, Nat.min_eq_left (Nat.mul_le_mul_right _ hk)]
  · intro i hi
    exact h3 i (by cases A with
      | none => simp [Value.ownBlock] at hi
      | some a => simpa [Value.ownBlock] using hi)
theorem RI.head0 (h : RI w F t E A l c xs) {k : Nat} (hk : k ≤ l) : RI w F t E (cutA A c 0 E.n) k (c - 0) (xs.take k) := by
  have e : cutA A c 0 E.n = A := by
    obtain ⟨⟨⟨_, h2⟩, _⟩, _⟩ := h
    unfold cutA
    split
    · rfl
    · rcases h2 with ⟨e, _⟩ | ⟨g, cap, cur, e, _⟩
      · injection e with e1; rw [e1]; rfl
      · injection e with e1; rw [e1]; simp [Addr.add]
  rw [e]
  exact h.head hk
theorem RI.one {g : Nat} {x : α} {cs : List Value} (hb : Blk w g t ([Value.agg cs.toArray].flatMap fun v => v.cells.toList).toArray) (hc : cs = E.f x) (hx : E.ok x) : RI w (fun k => k = g) t E (some ⟨g, 0, none⟩) 1 1 [x] := by
  have e : ([Value.agg cs.toArray].flatMap fun v => v.cells.toList) = [x].flatMap E.f := by
    show ([Value.agg cs.toArray].flatMap fun v => v.cells.toList) = _
    rw [hc]
    simp [Value.cells]
  rw [e] at hb
  have := Row.of_lit (F := fun k => k = g) (sz := E.n) (l := 1) hb rfl (by simp [E.len x hx]) (by simp [maxLen])
  exact ⟨this, by simpa using hx⟩
/-- Two rows of records, each in blocks of its own from n0 to m. -/
structure R2 (w : World) (n0 m : Nat) (t : TypeId) (E : Enc α) (A : Option Addr) (l c : Nat) (xs : List α) (B : Option Addr) (l2 c2 : Nat) (ys : List α) : Prop where
  ex : ∃ F0 F1 : Nat → Prop, RI w F0 t E A l c xs ∧ RI w F1 t E B l2 c2 ys ∧ (∀ k, F0 k → ¬ F1 k) ∧ (∀ k, F0 k → n0 ≤ k ∧ k < m) ∧ (∀ k, F1 k → n0 ≤ k ∧ k < m)
theorem R2.nil (w : World) (n0 m : Nat) (t : TypeId) (E : Enc α) : R2 w n0 m t E none 0 0 [] none 0 0 [] := ⟨No, No, RI.nil _ _ _ _, RI.nil _ _ _ _, fun _ h => h.elim, fun _ h => h.elim, fun _ h => h.elim⟩
theorem R2.swap (h : R2 w n0 m t E A l c xs B l2 c2 ys) : R2 w n0 m t E B l2 c2 ys A l c xs := by
  obtain ⟨F0, F1, h1, h2, h3, h4, h5⟩ := h
  exact ⟨F1, F0, h2, h1, fun k a b => h3 k b a, h5, h4⟩
theorem R2.ch (h : R2 w n0 m t E A l c xs B l2 c2 ys) (k : Ch T w w') (hn : ∀ i, n0 ≤ i → i < m → ¬ T i) : R2 w' n0 m t E A l c xs B l2 c2 ys := by
  obtain ⟨F0, F1, h1, h2, h3, h4, h5⟩ := h
  exact ⟨F0, F1, h1.ch k (fun i _ hi => hn i (h4 i hi).1 (h4 i hi).2), h2.ch k (fun i _ hi => hn i (h5 i hi).1 (h5 i hi).2), h3, h4, h5⟩
theorem R2.no (h : R2 w n0 m t E A l c xs B l2 c2 ys) (k : Ch No w w') : R2 w' n0 m t E A l c xs B l2 c2 ys := h.ch k (fun _ _ _ h => h)
theorem R2.up (h : R2 w n0 m t E A l c xs B l2 c2 ys) {m' : Nat} (hm : m ≤ m') : R2 w n0 m' t E A l c xs B l2 c2 ys := by
  obtain ⟨F0, F1, h1, h2, h3, h4, h5⟩ := h
  exact ⟨F0, F1, h1, h2, h3, fun k hk => ⟨(h4 k hk).1, by have := (h4 k hk).2; omega⟩, fun k hk => ⟨(h5 k hk).1, by have := (h5 k hk).2; omega⟩⟩
theorem R2.fst (h : R2 w n0 m t E A l c xs B l2 c2 ys) : RI w (fun k => n0 ≤ k ∧ k < m) t E A l c xs := by
  obtain ⟨F0, F1, h1, h2, h3, h4, h5⟩ := h
  exact h1.mono (fun k _ hk => h4 k hk)
theorem R2.snd (h : R2 w n0 m t E A l c xs B l2 c2 ys) : RI w (fun k => n0 ≤ k ∧ k < m) t E B l2 c2 ys := h.swap.fst
end
section
variable {P : Program} {Q : Exit → Act → World → Prop} {n d : Nat} {e : Env} {w : World} {K : Env → World → Prop} {rt : TypeId} {pos : String} {af : Array Edge} {gd : Option (Nat × Bool)}
/-- append onto one of two rows. -/
theorem e_app2 {α : Type} {E : Enc α} {t u : TypeId} {a b : Operand} {by_ n0 m : Nat} {A B X : Option Addr} {l l2 lx c c2 cx : Nat} {xs ys zs : List α} {Fx : Nat → Prop} (hlt : Nat.blt d n = true) (ht : ElT P t u E.n by_) (hs : ev e a = some (.slice A l c)) (hx : ev e b = some (.slice X lx cx)) (R : R2 w n0 m u E A l c xs B l2 c2 ys) (hX : SI w Fx E X lx cx zs)
    (hb : (l + lx) * by_ ≤ 140737488355328) (hm : m ≤ w.heap.size) (h0 : n0 ≤ w.heap.size)
    (k : ∀ w' A' c', R2 w' n0 w'.heap.size u E A' (l + lx) c' (xs ++ zs) B l2 c2 ys → Ch (fun k => (n0 ≤ k ∧ k < m) ∨ w.heap.size ≤ k) w w' → K ((d, .slice A' (l + lx) c') :: e) w') (h63 : l + lx ≤ maxLen := by unfold maxLen; omega) : OpE P n ⟨some d, .call { callee := .builtin .append, args := #[a, b], argTypes := #[t, t] }, rt, pos, af, gd⟩ e w Q K := by
  obtain ⟨F0, F1, h1, h2, h3, h4, h5⟩ := R
  refine e_appI hlt ht hs hx (h1.mono (G := fun k => F0 k ∨ w.heap.size ≤ k) (fun _ _ h => .inl h)) hX hb (fun k hk => .inr hk) (fun w' A' c' hR hc => k w' A' c' ?_ (hc.mono (fun k _ h => h.elim (fun h => .inl (h4 k h)) .inr))) h63
  have hsz := hc.size
  refine ⟨fun k => (F0 k ∨ w.heap.size ≤ k) ∧ k < w'.heap.size, F1, hR.mono (fun k hk h => ⟨h, hk⟩), h2.ch hc (fun k hk hF ht => ht.elim (fun h => h3 k h hF) (fun h => by omega)), fun k h hF => h.1.elim (fun h => h3 k h hF) (fun h => by have := (h5 k hF).2; omega), fun k h => ⟨h.1.elim (fun h => (h4 k h).1) (fun h => by omega), h.2⟩, fun k h => ⟨(h5 k h).1, by have := (h5 k h).2; omega⟩⟩
theorem e_app2b {α : Type} {E : Enc α} {t u : TypeId} {a b : Operand} {by_ n0 m : Nat} {A B X : Option Addr} {l l2 lx c c2 cx : Nat} {xs ys zs : List α} {Fx : Nat → Prop} (hlt : Nat.blt d n = true) (ht : ElT P t u E.n by_) (hs : ev e a = some (.slice B l2 c2)) (hx : ev e b = some (.slice X lx cx)) (R : R2 w n0 m u E A l c xs B l2 c2 ys) (hX : SI w Fx E X lx cx zs)
    (hb : (l2 + lx) * by_ ≤ 140737488355328) (hm : m ≤ w.heap.size) (h0 : n0 ≤ w.heap.size)
    (k : ∀ w' B' c', R2 w' n0 w'.heap.size u E A l c xs B' (l2 + lx) c' (ys ++ zs) → Ch (fun k => (n0 ≤ k ∧ k < m) ∨ w.heap.size ≤ k) w w' → K ((d, .slice B' (l2 + lx) c') :: e) w') (h63 : l2 + lx ≤ maxLen := by unfold maxLen; omega) : OpE P n ⟨some d, .call { callee := .builtin .append, args := #[a, b], argTypes := #[t, t] }, rt, pos, af, gd⟩ e w Q K :=
  e_app2 hlt ht hs hx R.swap hX hb hm h0 (fun w' B' c' hR hc => k w' B' c' hR.swap hc) h63
end
/-! ### Hashes, in short -/
section
variable {P : Program} {Q : Exit → Act → World → Prop} {S : World → Prop} {n : Nat} {e : Env} {w : World} {K : Env → World → Prop} {dst : Option Tmp} {rt : TypeId} {pos : String} {af : Array Edge} {gd : Option (Nat × Bool)}
theorem p_ldH {t E : TypeId} {x : Operand} {m b o : Nat} {L : List UInt8} (hd : P.underlying t = some (.array m E)) (hi : (P.info? t).map (·.size) = some 32) (hl : L.length = 32) (hx : ev e x = some (.pointer (some ⟨b, o, none⟩))) (hc : ∀ w, S w → w.rangeAt b o (List.map u8v L)) : Pu P S n ⟨dst, .load t x, rt, pos, af, gd⟩ e (.agg (List.map u8v L).toArray) :=
  p_ldA hd rfl (by rw [List.length_map, hl]; exact hi) hx hc
theorem e_stH {t E : TypeId} {a b : Operand} {g : Nat} {L0 L : List UInt8} (hi : (P.info? t).map (·.size) = some 32) (h0 : L0.length = 32) (hl : L.length = 32) (hx : ev e a = some (.pointer (some ⟨g, 0, none⟩))) (hy : ev e b = some (.agg (List.map u8v L).toArray)) (hb : Blk w g E (List.map u8v L0).toArray)
    (k : ∀ w', Blk w' g E (List.map u8v L).toArray → Ch (fun k => k = g) w w' → w'.heap.size = w.heap.size → K e w') : OpE P n ⟨none, .store t a b, rt, pos, af, gd⟩ e w Q K :=
  e_stW (vs := List.map u8v L) (by rw [List.length_map, hl]; exact hi) (oneL one_u8 _) hx hy hb (by simp [h0, hl]) k
end
end Go.Gx
