/-
  Own text: rows of bytes made at once: noughts behind none, a row's begin, how much a slice can hold; a field of bytes as a slice.
-/
import Derived.Test.YtkfkdakghjlenaaDoorGxPair
import Derived.Test.YtkfkdakghjlenaaDoorGxZer
set_option linter.unusedSimpArgs false
set_option linter.unusedVariables false
namespace Go.Gx
open Go.RowKit
section
variable {P : Program} {S : World → Prop} {n : Nat} {e : Env} {dst : Option Tmp} {rt : TypeId} {pos : String} {af : Array Edge} {gd : Option (Nat × Bool)}
theorem p_capS {t : TypeId} {x : Operand} {E : TypeId} {A : Option Addr} {l c : Nat} (ht : P.underlying t = some (.slice E)) (hx : ev e x = some (.slice A l c)) : Pu P S n ⟨dst, .call { callee := .builtin .cap, args := #[x], argTypes := #[t] }, rt, pos, af, gd⟩ e (i64 (c : Int)) := fun a F w _ => by
  simp [execOp, resolve, invoke, builtin, Builtin.cap_, F.ev hx, run_underlying ht, goInt]
end
section
variable {w w' : World} {F : Nat → Prop} {E : TypeId} {A : Option Addr} {l c k : Nat} {xs : List Value}
/-- A row's first bytes are one's own as well. -/
theorem Row.head0 (h : Row w F E 1 (.slice A l c) l xs) (hk : k ≤ l) : Row w F E 1 (.slice (cutA A c 0 1) k (c - 0)) k (xs.take k) := by
  obtain ⟨⟨h1, h2⟩, h3⟩ := h
  have e : cutA A c 0 1 = A := by
    unfold cutA
    split
    · rfl
    · rcases h2 with ⟨e, _⟩ | ⟨g, cap, cur, e, _⟩
      · injection e with e1; rw [e1]; rfl
      · injection e with e1; rw [e1]; simp [Addr.add]
  rw [e]
  refine ⟨⟨by rw [List.length_take]; omega, ?_⟩, ?_⟩
  · rcases h2 with ⟨e, rfl⟩ | ⟨g, cap, cur, e, hb, hg, hnc, hm, hs, ht⟩
    · obtain rfl : k = 0 := by omega
      exact .inl ⟨e, rfl⟩
    · injection e with e1 e2 e3
      subst e1; subst e3
      refine .inr ⟨g, _, cur, rfl, hb, hg, by omega, hm, hs, ?_⟩
      rw [← ht, List.take_take, Nat.min_eq_left (by omega), Nat.mul_one]
  · intro i hi
    exact h3 i (by cases A with
      | none => simp [Value.ownBlock] at hi
      | some a => simpa [Value.ownBlock] using hi)
end
section
variable {P : Program} {Q : Exit → Act → World → Prop} {n d : Nat} {e : Env} {w : World} {K : Env → World → Prop} {rt : TypeId} {pos : String} {af : Array Edge} {gd : Option (Nat × Bool)}
/-- So many noughts behind nothing. -/
theorem e_appZ0 {t u E : TypeId} {kn kq : IntKind} {s x : Operand} {m : Nat} (hlt : Nat.blt d n = true) (ht : ElT P t E 1 1) (hz : (P.info? E).map (·.zero) = some (some (.int .u8 0))) (hu : P.underlying u = some (.int kn)) (hs : ev e s = some (.slice none 0 0)) (hx : ev e x = some (.int kq (m : Int))) (h0 : 0 < m) (hb : m ≤ 140737488355328)
    (k : ∀ w' A c, Row w' (fun k => w.heap.size ≤ k) E 1 (.slice A m c) m (List.replicate m (.int .u8 0)) → Ch No w w' → K ((d, .slice A m c) :: e) w') : OpE P n ⟨some d, .call { callee := .builtin .append, args := #[s, x], argTypes := #[t, u] }, rt, pos, af, gd⟩ e w Q K := by
  obtain ⟨i, z, hi, hz', hsize, hby, hzs⟩ := ht.info
  have hz2 : i.zero = some (.int .u8 0) := by rw [hi] at hz; simpa using hz
  have hold : (Builtin.firstCells i.size 0 (.slice none 0 0)).run P w.drew = .ok ([] : List Value).toArray w.drew := by simp [Builtin.firstCells, loadCells, loadCellsFrom]
  have hr := Lib.run_append_grow_zeros (P := P) w t u rt E i (.int .u8 0) kq kn ht.under hu hi hz2 none 0 0 [] hold m (by omega) (by omega) (by omega) (by omega) (by rw [hby]; omega) (by rw [hby]; exact growslice_fits (by omega) (by omega))
  have hge := grownCap_ge w (0 + m) 0 E
  have hcm2 : grownCap w (0 + m) 0 E ≤ maxLen := grownCap_le_maxLen w (0 + m) 0 E (by unfold maxLen; omega)
  have hz1 : (Value.int IntKind.u8 0).cells.size = 1 := rfl
  rw [Nat.zero_add] at hr hge hcm2
  have hrun : ∃ A c w', (Builtin.append_ #[t, u] rt #[.slice none 0 0, .int kq (m : Int)]).run P w = .ok (.slice A m c) w' ∧ Row w' (fun k => w.heap.size ≤ k) E 1 (.slice A m c) m (List.replicate m (.int .u8 0)) ∧ Ch No w w' := by
    refine ⟨_, _, _, hr, ⟨⟨by rw [List.length_replicate, Nat.mul_one], .inr ⟨w.heap.size, _, _, rfl, Nat.zero_le _, heap_alloc_new w.drew _, hge, hcm2, ?_, ?_⟩⟩, fun k hk => by cases hk; exact Nat.le_refl _⟩, Ch.of_grown (row := none) ⟨rfl, rfl, rfl, by simp, fun k hk _ => heap_alloc_old w.drew _ hk⟩ (fun k hk => by cases hk)⟩
    · simp only [Array.size_append, List.size_toArray, size_zeroCells, hz1, List.length_nil]
      omega
    · rw [zc_u8]
      simp only [Array.toList_append, Nat.mul_one]
      exact List.take_left' (by simp)
  obtain ⟨A, c, w', hr, h2, h3⟩ := hrun
  refine e_of_run rfl hlt (fun a Fr => ?_) (k w' A c h2 h3)
  simp [execOp, resolve, invoke, builtin, Fr.ev hs, Fr.ev hx, hr]
end
section
variable {w : World} {g o : Nat} {L : List UInt8} {m : Nat}
/-- A field of bytes, as a slice. -/
theorem sl_fld (h : w.rangeAt g o (List.map u8v L)) (hl : L.length = m) : Sl w (fun k => k = g) u8v (some ⟨g, o, none⟩) m m L :=
  ⟨.inr ⟨g, o, rfl, rfl, fun j u hj => h j u hj⟩, hl, Nat.le_refl _⟩
theorem Sl.rng {F : Nat → Prop} {A : Option Addr} {l c : Nat} (h : Sl w F u8v A l c L) (h0 : 0 < l) : ∃ b o, A = some ⟨b, o, none⟩ ∧ F b ∧ w.rangeAt b o (List.map u8v L) := by
  obtain ⟨b, o, hA, hF, _⟩ := h.opn (d := 0) h0
  subst hA
  exact ⟨b, o, rfl, hF, h.range⟩
end
/-! ### New rows of noughts -/
theorem made_same {zc : Array Value} {v : Value} {sz : Nat} (hz : zc = Array.replicate sz v) (h0 : 0 < sz) (m : Nat) : madeCells zc m = (List.replicate m v).toArray := by
  subst hz
  apply Array.ext
  · simp [madeCells]
  · intro i h1 h2
    have : i % sz < sz := Nat.mod_lt _ h0
    simp [madeCells, this]
section
variable {P : Program} {Q : Exit → Act → World → Prop} {S : World → Prop} {n : Nat} {e : Env} {w : World} {rt : TypeId} {pos : String} {af : Array Edge} {gd : Option (Nat × Bool)} {d : Nat} {dst : Option Tmp} {K : Env → World → Prop}
/-- A new row of c elements, all their cells v. -/
theorem e_mkZ {t E : TypeId} {x y : Operand} {c sz by_ : Nat} {v z : Value} {q q' : IntKind} (hlt : Nat.blt d n = true) (ht : P.underlying t = some (.slice E)) (hi : (P.info? E).map (fun i => (i.zero, i.size, i.bytes)) = some (some z, sz, by_)) (hz : z.cells = Array.replicate sz v) (h0 : 0 < sz) (hx : ev e x = some (.int q (c : Int))) (hy : ev e y = some (.int q' (c : Int))) (hb : by_ * c ≤ 281474976710656) (h63 : c ≤ 9223372036854775807)
    (k : ∀ w' g, g = w.heap.size → Blk w' g E (List.replicate (c * sz) v).toArray → Ch No w w' → w'.heap.size = g + 1 → K ((d, .slice (some ⟨g, 0, none⟩) c c) :: e) w') : OpE P n ⟨some d, .makeSlice t x y, rt, pos, af, gd⟩ e w Q K := by
  obtain ⟨i, h1, h2, h3, h4⟩ := info_parts hi
  have hr := run_make (P := P) w t E i z ht h1 h2 q q' (c : Int) (c : Int) (by omega) (Int.le_refl _) (by rw [h4, ← Int.natCast_mul]; omega) (by omega)
  simp only [Int.toNat_natCast, h3] at hr
  rw [made_same hz h0] at hr
  refine e_of_run rfl hlt (fun a F => ?_) (k _ _ rfl (Blk.new w E _) (Ch.alloc w _) (by simp))
  simp [execOp, F.ev hx, F.ev hy, hr]
end
end Go.Gx
