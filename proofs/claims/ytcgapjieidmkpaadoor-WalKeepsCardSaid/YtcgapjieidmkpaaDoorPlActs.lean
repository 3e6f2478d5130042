/-
  Own text: what is done to a disk, as a record in memory: its cells, lists of such records. Over any program.
-/
import Derived.Test.YtcgapjieidmkpaaDoorGxAgg
import Derived.Test.YtcgapjieidmkpaaDoorPlActD
set_option linter.unusedVariables false
namespace Go.Gx
open Go.RowKit Go.Plain

structure RawAct where
  kd : Int
  ra : Int
  rn : Int
  bA : Option Addr
  bl : Nat
  bc : Nat
  kA : Option Addr
  kl : Nat
  kc : Nat
def RawAct.cells (r : RawAct) : List Value := [i64 r.kd, i64 r.ra, i64 r.rn, .slice r.bA r.bl r.bc, .slice r.kA r.kl r.kc]
instance : Inhabited RawAct := ⟨⟨0, 0, 0, none, 0, 0, none, 0, 0⟩⟩
structure ActIs (w : World) (F : Nat → Prop) (r : RawAct) (q : ActD) : Prop where
  e1 : r.kd = q.kind
  e2 : r.ra = q.a
  e3 : r.rn = q.n
  b : Sl w F u8v r.bA r.bl r.bc q.b
  k : Sl w F i64 r.kA r.kl r.kc q.keep
  bz : r.bc ≤ 140737488351232
  kz : r.kc ≤ 17592186044416
  a1 : -9223372036854775808 ≤ q.a
  a2 : q.a ≤ 9223372036854775807
  n1 : -9223372036854775808 ≤ q.n
  n2 : q.n ≤ 9223372036854775807
section
variable {w w' : World} {F G T : Nat → Prop} {r : RawAct} {q : ActD}
theorem ActIs.ch (h : ActIs w F r q) (c : Ch T w w') (hn : ∀ k, F k → ¬ T k) : ActIs w' F r q := ⟨h.e1, h.e2, h.e3, h.b.ch c hn, h.k.ch c hn, h.bz, h.kz, h.a1, h.a2, h.n1, h.n2⟩
theorem ActIs.mono (h : ActIs w F r q) (hF : ∀ k, k < w.heap.size → F k → G k) : ActIs w G r q := ⟨h.e1, h.e2, h.e3, h.b.mono hF, h.k.mono hF, h.bz, h.kz, h.a1, h.a2, h.n1, h.n2⟩
end
structure SA (w : World) (F : Nat → Prop) (A : Option Addr) (l c : Nat) (q : List ActD) : Prop where
  ex : ∃ rs : List RawAct, Rd w F A (rs.flatMap RawAct.cells) ∧ rs.length = l ∧ ∀ i, i < l → ActIs w F (rs.getD i default) (q.getD i default)
  len : q.length = l
  cap : l ≤ c
section
variable {w w' : World} {F G T : Nat → Prop} {A : Option Addr} {l c : Nat} {q : List ActD}
theorem SA.ch (h : SA w F A l c q) (k : Ch T w w') (hn : ∀ i, F i → ¬ T i) : SA w' F A l c q := by
  obtain ⟨rs, h1, h2, h3⟩ := h.ex
  exact ⟨⟨rs, h1.ch k hn, h2, fun i hi => (h3 i hi).ch k hn⟩, h.len, h.cap⟩
theorem SA.no (h : SA w F A l c q) (k : Ch No w w') : SA w' F A l c q := h.ch k (fun _ _ h => h)
theorem SA.mono (h : SA w F A l c q) (hF : ∀ k, k < w.heap.size → F k → G k) : SA w G A l c q := by
  obtain ⟨rs, h1, h2, h3⟩ := h.ex
  exact ⟨⟨rs, h1.mono hF, h2, fun i hi => (h3 i hi).mono hF⟩, h.len, h.cap⟩
theorem SA.old (h : SA w F A l c q) : SA w (fun k => k < w.heap.size) A l c q := h.mono fun _ h _ => h
theorem cells5 : ∀ (rs : List RawAct) (i : Nat), i < rs.length → ∀ j v, (rs.getD i default).cells[j]? = some v → (rs.flatMap RawAct.cells)[i * 5 + j]? = some v
  | [], i, h, _, _, _ => by simp at h
  | r :: rs, 0, _, j, v, hv => by
    have hj : j < 5 := by
      have := (List.getElem?_eq_some_iff.1 hv).1
      simpa [RawAct.cells] using this
    rw [List.flatMap_cons, Nat.zero_mul, Nat.zero_add, List.getElem?_append_left (by simpa [RawAct.cells] using hj)]
    exact hv
  | r :: rs, i + 1, h, j, v, hv => by
    have ih := cells5 rs i (by simpa using h) j v (by simpa using hv)
    rw [List.flatMap_cons, List.getElem?_append_right (by simp [RawAct.cells]; omega), show (i + 1) * 5 + j - r.cells.length = i * 5 + j by simp [RawAct.cells]; omega]
    exact ih
theorem flat5 (rs : List RawAct) : (rs.flatMap RawAct.cells).length = rs.length * 5 := by
  induction rs with
  | nil => rfl
  | cons r rs ih => rw [List.flatMap_cons, List.length_append, ih, List.length_cons]; simp [RawAct.cells]; omega
theorem SA.opn (h : SA w F A l c q) {i : Nat} (hi : i < l) : ∃ b o r, A = some ⟨b, o, none⟩ ∧ F b ∧ w.rangeAt b (o + i * 5) r.cells ∧ ActIs w F r (q.getD i default) := by
  obtain ⟨rs, h1, h2, h3⟩ := h.ex
  rcases h1 with h1 | ⟨b, o, hA, hF, hc⟩
  · have := flat5 rs
    rw [h1] at this
    simp at this; omega
  · exact ⟨b, o, _, hA, hF, fun j v hv => by rw [Nat.add_assoc]; exact hc _ v (cells5 rs i (by omega) j v hv), h3 i hi⟩
/-- One of them, all that is known. -/
theorem SA.opn5 (h : SA w F A l c q) {i : Nat} (hi : i < l) : ∃ a, a = q.getD i default ∧ ∃ b o bA bl bc kA kl kc, A = some ⟨b, o, none⟩ ∧ w.rangeAt b (o + i * 5) [i64 a.kind, i64 a.a, i64 a.n, .slice bA bl bc, .slice kA kl kc] ∧ Sl w F u8v bA bl bc a.b ∧ Sl w F i64 kA kl kc a.keep ∧ bc ≤ 140737488351232 ∧ kc ≤ 17592186044416 ∧
    -9223372036854775808 ≤ a.a ∧ a.a ≤ 9223372036854775807 ∧ -9223372036854775808 ≤ a.n ∧ a.n ≤ 9223372036854775807 := by
  obtain ⟨b, o, r, h1, h2, h3, h4⟩ := h.opn hi
  refine ⟨_, rfl, b, o, r.bA, r.bl, r.bc, r.kA, r.kl, r.kc, h1, ?_, h4.b, h4.k, h4.bz, h4.kz, h4.a1, h4.a2, h4.n1, h4.n2⟩
  rw [← h4.e1, ← h4.e2, ← h4.e3]; exact h3
theorem SA.one {g : Nat} {E : TypeId} {r : RawAct} {a : ActD} (hb : Blk w g E (r.cells).toArray) (h : ActIs w F r a) : SA w (fun k => k = g ∨ F k) (some ⟨g, 0, none⟩) 1 1 [a] := by
  refine ⟨⟨[r], ?_, rfl, fun i hi => ?_⟩, rfl, Nat.le_refl _⟩
  · have := Rd.of_blk (F := fun k => k = g ∨ F k) hb (.inl rfl) 0 5
    simpa [RawAct.cells] using this
  · obtain rfl : i = 0 := by omega
    exact h.mono fun k _ hk => .inr hk
theorem SA.two {g : Nat} {E : TypeId} {r s : RawAct} {a b : ActD} (hb : Blk w g E (r.cells ++ s.cells).toArray) (h : ActIs w F r a) (h2 : ActIs w F s b) : SA w (fun k => k = g ∨ F k) (some ⟨g, 0, none⟩) 2 2 [a, b] := by
  refine ⟨⟨[r, s], ?_, rfl, fun i hi => ?_⟩, rfl, Nat.le_refl _⟩
  · have := Rd.of_blk (F := fun k => k = g ∨ F k) hb (.inl rfl) 0 10
    simpa [RawAct.cells] using this
  · have : i = 0 ∨ i = 1 := by omega
    rcases this with rfl | rfl
    · exact h.mono fun k _ hk => .inr hk
    · exact h2.mono fun k _ hk => .inr hk
end
end Go.Gx
