/-
  Own text: memory: what may have changed between two worlds, blocks that are known whole, slices that read as lists, rows of a call's own; loads, stores, allocations, appends, calls.
-/
import Derived.Test.YtkfkdakghjlenaaDoorGxOps
import Derived.Maps.AppendAt
import Derived.Lib.AppendStr
import Derived.Deep.MidRow
import Derived.Laws.BytesArg
import Derived.Lib.Strings
set_option linter.unusedSimpArgs false
set_option linter.unusedVariables false
namespace Go.Gx
open Go.RowKit

/-- From w to w' no block of w's has changed but those of T. -/
structure Ch (T : Nat → Prop) (w w' : World) : Prop where
  os : w'.os = w.os
  tape : w'.tape = w.tape
  output : w'.output = w.output
  size : w.heap.size ≤ w'.heap.size
  block : ∀ k, k < w.heap.size → ¬ T k → w'.heap[k]? = w.heap[k]?
/-- No block. -/
abbrev No : Nat → Prop := fun _ => False
theorem Ch.refl (T : Nat → Prop) (w : World) : Ch T w w := ⟨rfl, rfl, rfl, Nat.le_refl _, fun _ _ _ => rfl⟩
theorem Ch.trans {T U V : Nat → Prop} {a b c : World} (h : Ch T a b) (k : Ch U b c) (hT : ∀ i, i < a.heap.size → T i → V i) (hU : ∀ i, i < a.heap.size → U i → V i) : Ch V a c :=
  ⟨k.os.trans h.os, k.tape.trans h.tape, k.output.trans h.output, Nat.le_trans h.size k.size, fun i hi hn =>
    (k.block i (Nat.lt_of_lt_of_le hi h.size) (fun hu => hn (hU i hi hu))).trans (h.block i hi (fun ht => hn (hT i hi ht)))⟩
theorem Ch.tr {T : Nat → Prop} {a b c : World} (h : Ch T a b) (k : Ch No b c) : Ch T a c := h.trans k (fun _ _ h => h) (fun _ _ h => h.elim)
theorem Ch.mono {T U : Nat → Prop} {a b : World} (h : Ch T a b) (hT : ∀ i, i < a.heap.size → T i → U i) : Ch U a b := ⟨h.os, h.tape, h.output, h.size, fun i hi hn => h.block i hi (fun ht => hn (hT i hi ht))⟩
theorem Ch.drew (w : World) : Ch No w w.drew := ⟨rfl, rfl, rfl, Nat.le_refl _, fun _ _ _ => rfl⟩
theorem Ch.alloc (w : World) (o : Obj) : Ch No w (w.alloc o) := ⟨rfl, rfl, rfl, by simp, fun k hk _ => Below.heap_alloc _ _ _ hk⟩
theorem Ch.setCell (w : World) (p : Addr) (u : Value) : Ch (fun k => k = p.block) w (w.setCell p u) := ⟨rfl, rfl, rfl, by simp [World.setCell], fun k _ hn => Below.heap_setCell _ _ _ _ hn⟩
theorem Ch.below {w w' : World} (h : Ch No w w') : Below w.heap.size w w' := ⟨h.os, h.tape, h.output, h.size, fun k hk => h.block k hk (fun h => h)⟩
theorem Ch.of_grown {T : Nat → Prop} {w w' : World} {row : Option Nat} (h : w.grownBy w' row) (hT : ∀ k, row = some k → T k) : Ch T w w' := ⟨h.os, h.tape, h.output, h.size, fun k hk hn => h.block k hk (fun e => hn (hT k e.symm))⟩
theorem Ch.cell {T : Nat → Prop} {w w' : World} (h : Ch T w w') {p : Addr} (hn : ¬ T p.block) {v : Value} (hc : w.cell? p = some v) : w'.cell? p = some v :=
  (World.cell?_of_block (h.block p.block (World.block_lt_of_cell? w p hc) hn)).trans hc

/-- Block g is just the cells cs of element type t, none frozen. -/
def Blk (w : World) (g : Nat) (t : TypeId) (cs : Array Value) : Prop := w.heap[g]? = some (.cells cs t (0, 0))
section
variable {T F : Nat → Prop} {w w' : World} {g : Nat} {t : TypeId} {cs : Array Value}
theorem Blk.lt (h : Blk w g t cs) : g < w.heap.size := by
  rcases Nat.lt_or_ge g w.heap.size with hlt | hge
  · exact hlt
  · unfold Blk at h; rw [Array.getElem?_eq_none hge] at h; cases h
theorem Blk.ch (h : Blk w g t cs) (c : Ch T w w') (hn : ¬ T g) : Blk w' g t cs := (c.block g h.lt hn).trans h
theorem Blk.cell (h : Blk w g t cs) {i : Nat} {v : Value} (hv : cs[i]? = some v) : w.cell? ⟨g, i, none⟩ = some v := by rw [cell_of_row w g i cs t (0, 0) h]; exact hv
theorem Blk.free (h : Blk w g t cs) (i : Nat) : w.frozen? ⟨g, i, none⟩ = false := by unfold Blk at h; simp [World.frozen?, h]
theorem Blk.new (w : World) (t : TypeId) (cs : Array Value) : Blk (w.alloc (.cells cs t)) w.heap.size t cs := heap_alloc_new w _
theorem Blk.set (h : Blk w g t cs) (i : Nat) (u : Value) : Blk (w.setCell ⟨g, i, none⟩ u) g t (cs.setIfInBounds i u) := by
  unfold Blk at h ⊢
  simp [World.setCell, Array.getElem?_modify, h]
end

/-- The slice address A leads to the cells xs, in a block of F. -/
def Rd (w : World) (F : Nat → Prop) (A : Option Addr) (xs : List Value) : Prop :=
  xs = [] ∨ ∃ b o, A = some ⟨b, o, none⟩ ∧ F b ∧ ∀ j u, xs[j]? = some u → w.cell? ⟨b, o + j, none⟩ = some u
section
variable {T F G : Nat → Prop} {w w' : World} {A : Option Addr} {xs : List Value}
theorem Rd.nil : Rd w F A [] := .inl rfl
theorem Rd.ch (h : Rd w F A xs) (c : Ch T w w') (hn : ∀ k, F k → ¬ T k) : Rd w' F A xs := by
  rcases h with h | ⟨b, o, h1, h2, h3⟩
  · exact .inl h
  · exact .inr ⟨b, o, h1, h2, fun j u hj => c.cell (hn b h2) (h3 j u hj)⟩
theorem Rd.no (h : Rd w F A xs) (c : Ch No w w') : Rd w' F A xs := h.ch c (fun _ _ h => h)
theorem Rd.mono (h : Rd w F A xs) (hF : ∀ k, k < w.heap.size → F k → G k) : Rd w G A xs := by
  rcases h with h | ⟨b, o, h1, h2, h3⟩
  · exact .inl h
  · rcases xs with _ | ⟨x, r⟩
    · exact .inl rfl
    · exact .inr ⟨b, o, h1, hF b (by have := World.block_lt_of_cell? w _ (h3 0 x rfl); exact this) h2, h3⟩
theorem Rd.at_ (h : Rd w F A xs) {i : Nat} {u : Value} (hi : xs[i]? = some u) : ∃ b o, A = some ⟨b, o, none⟩ ∧ F b ∧ w.cell? ⟨b, o + i, none⟩ = some u := by
  rcases h with h | ⟨b, o, h1, h2, h3⟩
  · subst h; simp at hi
  · exact ⟨b, o, h1, h2, h3 i u hi⟩
/-- A cut's address: the model keeps the old one where nothing is left behind it. -/
def cutA (A : Option Addr) (c l sz : Nat) : Option Addr := if c = l then A else A.map (·.add (l * sz))
theorem Rd.cut (h : Rd w F A xs) {c l sz : Nat} (hc : xs.length ≤ c * sz) : Rd w F (cutA A c l sz) (xs.drop (l * sz)) := by
  rcases h with h | ⟨b, o, h1, h2, h3⟩
  · subst h; simp [Rd]
  · by_cases hd : xs.drop (l * sz) = []
    · exact .inl hd
    · have hlen : l * sz < xs.length := by
        rcases Nat.lt_or_ge (l * sz) xs.length with h | h
        · exact h
        · exact absurd (List.drop_eq_nil_of_le h) hd
      have hcl : c ≠ l := by rintro rfl; omega
      refine .inr ⟨b, o + l * sz, ?_, h2, fun j u hj => ?_⟩
      · simp only [cutA, if_neg hcl, h1, Option.map_some, Addr.add_mid]
      · rw [Nat.add_assoc]; exact h3 _ u (by rw [← hj, List.getElem?_drop])
theorem Rd.take (h : Rd w F A xs) (m : Nat) : Rd w F A (xs.take m) := by
  rcases h with h | ⟨b, o, h1, h2, h3⟩
  · subst h; simp [Rd]
  · exact .inr ⟨b, o, h1, h2, fun j u hj => h3 j u (by
      rw [List.getElem?_take] at hj
      split at hj
      · exact hj
      · cases hj)⟩
theorem Rd.of_blk {g : Nat} {t : TypeId} {cs : Array Value} (h : Blk w g t cs) (hF : F g) (o m : Nat) : Rd w F (some ⟨g, o, none⟩) ((cs.toList.drop o).take m) :=
  .inr ⟨g, o, rfl, hF, fun j u hj => h.cell (by
    rw [List.getElem?_take] at hj
    split at hj
    · rw [List.getElem?_drop] at hj; simpa using hj
    · cases hj)⟩
end

/-- The slice value v, of n elements of type E (sz cells each), owns the cells xs, in a block of F, or is nil. -/
structure Row (w : World) (F : Nat → Prop) (E : TypeId) (sz : Nat) (v : Value) (n : Nat) (xs : List Value) : Prop where
  own : w.ownsRow 0 E sz v n xs
  at_ : ∀ k, v.ownBlock = some k → F k
section
variable {T F G : Nat → Prop} {w w' : World} {E : TypeId} {sz : Nat} {v : Value} {n : Nat} {xs : List Value}
theorem Row.nil (w : World) (F : Nat → Prop) (E : TypeId) (sz : Nat) : Row w F E sz (.slice none 0 0) 0 [] := ⟨World.ownsRow_nil w 0 E sz, fun k h => by simp [Value.ownBlock] at h⟩
theorem Row.mono (h : Row w F E sz v n xs) (hF : ∀ k, k < w.heap.size → F k → G k) : Row w G E sz v n xs := ⟨h.own, fun k hk => hF k (h.own.lt k hk).2 (h.at_ k hk)⟩
theorem Row.ch (h : Row w F E sz v n xs) (c : Ch T w w') (hn : ∀ k, k < w.heap.size → F k → ¬ T k) : Row w' F E sz v n xs := by
  obtain ⟨⟨h1, h2⟩, h3⟩ := h
  refine ⟨⟨h1, ?_⟩, h3⟩
  rcases h2 with h2 | ⟨g, cap, cur, rfl, hb, hg, r⟩
  · exact .inl h2
  · have hlt : g < w.heap.size := Blk.lt (t := E) hg
    exact .inr ⟨g, cap, cur, rfl, hb, (c.block g hlt (hn g hlt (h3 g rfl))).trans hg, r⟩
theorem Row.no (h : Row w F E sz v n xs) (c : Ch No w w') : Row w' F E sz v n xs := h.ch c (fun _ _ _ h => h)
theorem Row.len (h : Row w F E sz v n xs) : xs.length = n * sz := h.own.1
theorem Row.form (h : Row w F E sz v n xs) : ∃ A c, v = .slice A n c ∧ n ≤ c ∧ c ≤ maxLen ∧ Rd w F A xs := by
  obtain ⟨⟨h1, h2⟩, h3⟩ := h
  rcases h2 with ⟨rfl, rfl⟩ | ⟨g, cap, cur, rfl, hb, hg, hnc, hm, hs, ht⟩
  · have : xs = [] := List.eq_nil_of_length_eq_zero (by simpa using h1)
    exact ⟨none, 0, rfl, Nat.le_refl _, by simp [maxLen], .inl this⟩
  · refine ⟨some ⟨g, 0, none⟩, cap, rfl, hnc, hm, ?_⟩
    have := Rd.of_blk (w := w) (F := F) (g := g) (t := E) (cs := cur) hg (h3 g rfl) 0 (n * sz)
    rwa [List.drop_zero, ht] at this
theorem Row.of_blk {g cap : Nat} {cs : Array Value} (h : Blk w g E cs) (hF : F g) (hnc : n ≤ cap) (hm : cap ≤ maxLen) (hs : cs.size = cap * sz) : Row w F E sz (.slice (some ⟨g, 0, none⟩) n cap) n (cs.toList.take (n * sz)) :=
  ⟨⟨by rw [List.length_take, Array.length_toList, hs]; exact Nat.min_eq_left (Nat.mul_le_mul_right _ hnc), .inr ⟨g, cap, cs, rfl, Nat.zero_le _, h, hnc, hm, hs, rfl⟩⟩, fun k hk => by
    simp [Value.ownBlock] at hk; subst hk; exact hF⟩
end

/-! ### Operations on memory -/
theorem ld {w : World} {p : Addr} {v : Value} (h : w.cell? p = some v) : ∀ w', w' = w → w'.cell? p = some v := fun _ e => e ▸ h
def flatT : TypeDesc → Bool
  | .struct _ => false
  | .array _ _ => false
  | _ => true
section
variable {P : Program} {Q : Exit → Act → World → Prop} {S : World → Prop} {n : Nat} {e : Env} {w : World} {dst : Option Tmp} {rt : TypeId} {pos : String} {af : Array Edge} {gd : Option (Nat × Bool)}

theorem run_loadVar_flat {t : TypeId} {d : TypeDesc} (hd : P.underlying t = some d) (hf : flatT d = true) {p : Addr} {v : Value} (hc : w.cell? p = some v) : (loadVar t p).run P w = .ok v w := by
  have ha : (isAgg t).run P w = .ok false w := by
    cases d <;> simp [flatT] at hf <;> simp [isAgg, run_underlying hd]
  simp [loadVar, ha, load, Sem.run, hc]
theorem p_ld {t : TypeId} {x : Operand} {d : TypeDesc} {p : Addr} {v : Value} (hd : P.underlying t = some d) (hf : flatT d = true) (hx : ev e x = some (.pointer (some p))) (hc : ∀ w, S w → w.cell? p = some v) : Pu P S n ⟨dst, .load t x, rt, pos, af, gd⟩ e v := fun a F w hw => by
  simp [execOp, F.ev hx, Instr.loadAt, Instr.sureAddr, run_loadVar_flat hd hf (hc w hw)]
/-- A whole array or struct. -/
theorem p_ldA {t : TypeId} {x : Operand} {d : TypeDesc} {b o : Nat} {cs : List Value} (hd : P.underlying t = some d) (hf : flatT d = false) (hi : (P.info? t).map (·.size) = some cs.length) (hx : ev e x = some (.pointer (some ⟨b, o, none⟩))) (hc : ∀ w, S w → w.rangeAt b o cs) : Pu P S n ⟨dst, .load t x, rt, pos, af, gd⟩ e (.agg cs.toArray) := fun a F w hw => by
  have h := run_loadAt_mid (P := P) w b o t cs d (hc w hw) hd (by cases d <;> simp [flatT] at hf <;> simp) hi
  simp [execOp, F.ev hx, h]
theorem rng_blk {g o : Nat} {t : TypeId} {cs : Array Value} (h : Blk w g t cs) {l : List Value} (hl : (cs.toList.drop o).take l.length = l) : w.rangeAt g o l := fun j v hv => h.cell (by
  have : ((cs.toList.drop o).take l.length)[j]? = some v := by rw [hl]; exact hv
  rw [List.getElem?_take] at this
  split at this
  · rw [List.getElem?_drop] at this; simpa using this
  · cases this)
/-- An element's address: of a slice, of an array behind a pointer. -/
theorem p_ixS {t E : TypeId} {x i : Operand} {A : Option Addr} {b o l c sz j : Nat} {k : IntKind} {I : Int} (ht : P.underlying t = some (.slice E)) (hsz : (P.info? E).map (·.size) = some sz) (hx : ev e x = some (.slice A l c)) (hA : A = some ⟨b, o, none⟩)
    (hi : ev e i = some (.int k I)) (h0 : 0 ≤ I) (h1 : I < l) (hj : I.toNat * sz = j) : Pu P S n ⟨dst, .indexAddr t x i, rt, pos, af, gd⟩ e (.pointer (some ⟨b, o + j, none⟩)) := fun a F w _ => by
  subst hA hj
  obtain ⟨inf, hinf, rfl⟩ := Option.map_eq_some_iff.1 hsz
  have h : (Instr.indexAt t (.slice (some ⟨b, o, none⟩) l c) (.int k I)).run P w = .ok (.pointer (some ⟨b, o + I.toNat * inf.size, none⟩)) w := by
    simp [Instr.indexAt, asIntOf, run_underlying ht, sizeOf, typeInfo, hinf, h0, h1, Addr.add_mid]
  simp [execOp, F.ev hx, F.ev hi, h]
theorem p_ixA {t E : TypeId} {x i : Operand} {b o l sz j : Nat} {k : IntKind} {I : Int} (ht : P.underlying t = some (.array l E)) (hsz : (P.info? E).map (·.size) = some sz) (hx : ev e x = some (.pointer (some ⟨b, o, none⟩)))
    (hi : ev e i = some (.int k I)) (h0 : 0 ≤ I) (h1 : I < l) (hj : I.toNat * sz = j) : Pu P S n ⟨dst, .indexAddr t x i, rt, pos, af, gd⟩ e (.pointer (some ⟨b, o + j, none⟩)) := fun a F w _ => by
  subst hj
  obtain ⟨inf, hinf, rfl⟩ := Option.map_eq_some_iff.1 hsz
  have h : (Instr.indexAt t (.pointer (some ⟨b, o, none⟩)) (.int k I)).run P w = .ok (.pointer (some ⟨b, o + I.toNat * inf.size, none⟩)) w := by
    simp [Instr.indexAt, Instr.sureAddr, asIntOf, run_underlying ht, sizeOf, typeInfo, hinf, h0, h1, Addr.add_mid]
  simp [execOp, F.ev hx, F.ev hi, h]
theorem p_fld {s : TypeId} {x : Operand} {i b o j : Nat} {fs : Array Field} {f : Field} (hs : P.underlying s = some (.struct fs)) (hf : fs[i]? = some f) (hz : ∃ m, (P.info? f.type).map (·.size) = some (m + 1)) (hx : ev e x = some (.pointer (some ⟨b, o, none⟩))) (hj : f.offset = j) : Pu P S n ⟨dst, .fieldAddr s x i, rt, pos, af, gd⟩ e (.pointer (some ⟨b, o + j, none⟩)) := fun a F w _ => by
  subst hj
  obtain ⟨m, hm⟩ := hz
  obtain ⟨inf, hinf, hsz⟩ := Option.map_eq_some_iff.1 hm
  have h : (Instr.fieldAt s (.pointer (some ⟨b, o, none⟩)) i).run P w = .ok (.pointer (some ⟨b, o + f.offset, none⟩)) w := by
    simp [Instr.fieldAt, Instr.sureAddr, run_underlying hs, hf, fieldPlace, sizeOf, typeInfo, hinf, hsz, Addr.add_mid]
  simp [execOp, F.ev hx, h]
end
end Go.Gx
