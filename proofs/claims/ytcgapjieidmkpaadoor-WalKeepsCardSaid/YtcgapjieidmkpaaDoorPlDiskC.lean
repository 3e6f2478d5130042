/-
  Own text: a disk in a caller's hands: the blocks that it owns, what stays as it, or something else, changes. Over any program.
-/
import Derived.Test.YtcgapjieidmkpaaDoorPlDiskSt
import Derived.Test.YtcgapjieidmkpaaDoorPlDiskOk
set_option linter.unusedVariables false
namespace Go.Gx
open Go.RowKit Go.Plain
structure CD (T : DTy) (w0 w : World) (O : Nat → Prop) (g n : Nat) (d : DS) : Prop where
  at_ : DkAt T w (fun k => O k ∨ w.heap.size ≤ k) g n d
  ok : d.Ok n
  hn : n ≤ 4096
  lo : ∀ k, O k → w0.heap.size ≤ k
  hi : ∀ k, O k → k < w.heap.size
  arm : d.armed ≤ 9223372036854775807
  kp : d.keep.length ≤ 17592186044416
section
variable {T : DTy} {w0 w w' : World} {O U : Nat → Prop} {g n : Nat} {d d' : DS}
theorem CD.other (h : CD T w0 w O g n d) (c : Ch U w w') (hn : ∀ k, O k → ¬ U k) : CD T w0 w' O g n d := by
  refine ⟨?_, h.ok, h.hn, h.lo, fun k hk => Nat.lt_of_lt_of_le (h.hi k hk) c.size, h.arm, h.kp⟩
  have h1 : DkAt T w (fun k => O k) g n d ∨ True := .inr trivial
  refine ((h.at_.mono (G := fun k => O k ∧ k < w.heap.size) (fun k hk hf => ⟨hf.resolve_right (by omega), hk⟩)).ch c (fun k hk hf => hn k hf.1)).mono (fun k _ hf => .inl hf.1)
theorem CD.no (h : CD T w0 w O g n d) (c : Ch No w w') : CD T w0 w' O g n d := h.other c (fun _ _ h => h)
theorem CD.next (h : CD T w0 w O g n d) (hd : DkAt T w' (fun k => O k ∨ w.heap.size ≤ k) g n d') (c : Ch (fun k => O k ∨ w.heap.size ≤ k) w w') (ok : d'.Ok n) (ha : d'.armed ≤ 9223372036854775807) (hkp : d'.keep.length ≤ 17592186044416) (hz : w0.heap.size ≤ w.heap.size) :
    ∃ O' : Nat → Prop, CD T w0 w' O' g n d' ∧ (∀ k, O' k → O k ∨ w.heap.size ≤ k) ∧ Ch O w w' := by
  refine ⟨fun k => O k ∨ (w.heap.size ≤ k ∧ k < w'.heap.size), ⟨hd.mono fun k hk hf => ?_, ok, h.hn, fun k hk => ?_, fun k hk => ?_, ha, hkp⟩, fun k hk => ?_, c.mono fun k hk hf => hf.resolve_right (by omega)⟩
  · rcases hf with hf | hf
    · exact .inl (.inl hf)
    · exact .inl (.inr ⟨hf, hk⟩)
  · rcases hk with hk | hk
    · exact h.lo k hk
    · omega
  · rcases hk with hk | hk
    · exact Nat.lt_of_lt_of_le (h.hi k hk) c.size
    · exact hk.2
  · rcases hk with hk | hk
    · exact .inl hk
    · exact .inr hk.1
theorem CD.first {w1 : World} (hd : DkAt T w (fun k => w1.heap.size ≤ k) g n d) (ok : d.Ok n) (hn : n ≤ 4096) (ha : d.armed ≤ 9223372036854775807) (hkp : d.keep.length ≤ 17592186044416) (h0 : w0.heap.size ≤ w1.heap.size) : ∃ O : Nat → Prop, CD T w0 w O g n d ∧ (∀ k, O k → w1.heap.size ≤ k) :=
  ⟨fun k => w1.heap.size ≤ k ∧ k < w.heap.size, ⟨hd.mono fun k hk hf => .inl ⟨hf, hk⟩, ok, hn, fun k hk => by omega, fun k hk => hk.2, ha, hkp⟩, fun k hk => hk.1⟩
/-- A row in a caller's hands. -/
structure CR (w0 w : World) (G : Nat → Prop) (E : TypeId) (v : Value) (l : Nat) (xs : List Value) : Prop where
  at_ : Row w (fun k => G k ∨ w.heap.size ≤ k) E 1 v l xs
  lo : ∀ k, G k → w0.heap.size ≤ k
  hi : ∀ k, G k → k < w.heap.size
variable {G : Nat → Prop} {E : TypeId} {v v' : Value} {l l' : Nat} {xs xs' : List Value}
theorem CR.other (h : CR w0 w G E v l xs) (c : Ch U w w') (hn : ∀ k, G k → ¬ U k) : CR w0 w' G E v l xs :=
  ⟨((h.at_.mono (G := fun k => G k) (fun k hk hf => hf.resolve_right (by omega))).ch c (fun k hk hf => hn k hf)).mono (fun k _ hf => .inl hf), h.lo, fun k hk => Nat.lt_of_lt_of_le (h.hi k hk) c.size⟩
theorem CR.no (h : CR w0 w G E v l xs) (c : Ch No w w') : CR w0 w' G E v l xs := h.other c (fun _ _ h => h)
theorem CR.next (h : CR w0 w G E v l xs) (hd : Row w' (fun k => G k ∨ w.heap.size ≤ k) E 1 v' l' xs') (c : Ch (fun k => G k ∨ w.heap.size ≤ k) w w') (hz : w0.heap.size ≤ w.heap.size) :
    ∃ G' : Nat → Prop, CR w0 w' G' E v' l' xs' ∧ (∀ k, G' k → G k ∨ w.heap.size ≤ k) ∧ Ch G w w' := by
  refine ⟨fun k => G k ∨ (w.heap.size ≤ k ∧ k < w'.heap.size), ⟨hd.mono fun k hk hf => ?_, fun k hk => ?_, fun k hk => ?_⟩, fun k hk => ?_, c.mono fun k hk hf => hf.resolve_right (by omega)⟩
  · rcases hf with hf | hf
    · exact .inl (.inl hf)
    · exact .inl (.inr ⟨hf, hk⟩)
  · rcases hk with hk | hk
    · exact h.lo k hk
    · omega
  · rcases hk with hk | hk
    · exact Nat.lt_of_lt_of_le (h.hi k hk) c.size
    · exact hk.2
  · rcases hk with hk | hk
    · exact .inl hk
    · exact .inr hk.1
theorem CR.nil (w0 w : World) (E : TypeId) : CR w0 w (fun _ => False) E (.slice none 0 0) 0 [] := ⟨Row.nil _ _ _ _, fun _ h => h.elim, fun _ h => h.elim⟩
end
/-! ### Parts of texts -/
section
variable {P : Program} {S : World → Prop} {n : Nat} {e : Env} {dst : Option Tmp} {rt : TypeId} {pos : String} {af : Array Edge} {gd : Option (Nat × Bool)}
theorem p_slTh {t : TypeId} {x hi : Operand} {L : List UInt8} {k : IntKind} {h : Nat} (ht : P.underlying t = some .string) (hx : ev e x = some (.string (str L))) (hh : ev e hi = some (.int k (h : Int))) (h2 : h ≤ L.length) :
    Pu P S n ⟨dst, .slice t x none (some hi) none, rt, pos, af, gd⟩ e (.string (str (L.take h))) := fun a F w _ => by
  have hs : h ≤ (str L).size := by rw [str_size]; exact h2
  have h3 : (Instr.slice t (.string (str L)) none (some (.int k (h : Int))) none).run P w = .ok (.string ((str L).extract 0 h)) w := by
    have hj : 0 ≤ (h : Int) ∧ (h : Int) ≤ ((str L).size : Int) := ⟨by omega, by omega⟩
    simp [Instr.slice, Instr.sliceBounds, Instr.sliceBound, asIntOf, run_underlying ht, hj]
    intro hc; omega
  have h4 : (str L).extract 0 h = str (L.take h) := by
    apply ByteArray.ext
    rw [ByteArray.data_extract, str]
    apply Array.toList_inj.1
    simp [str, List.extract_eq_take_drop]
  rw [h4] at h3
  simp [execOp, F.ev hx, F.ev hh, run_sliceAt_string w t _ _ _ _ ht, h3]
theorem p_slTl {t : TypeId} {x lo : Operand} {L : List UInt8} {k : IntKind} {l : Nat} (ht : P.underlying t = some .string) (hx : ev e x = some (.string (str L))) (hl : ev e lo = some (.int k (l : Int))) (h2 : l ≤ L.length) :
    Pu P S n ⟨dst, .slice t x (some lo) none none, rt, pos, af, gd⟩ e (.string (str (L.drop l))) := fun a F w _ => by
  have hs : l ≤ (str L).size := by rw [str_size]; exact h2
  have h3 : (Instr.slice t (.string (str L)) (some (.int k (l : Int))) none none).run P w = .ok (.string ((str L).extract l (str L).size)) w := by
    have hj : 0 ≤ (l : Int) ∧ (l : Int) ≤ (((str L).size : Nat) : Int) := ⟨by omega, by omega⟩
    simp [Instr.slice, Instr.sliceBounds, Instr.sliceBound, asIntOf, run_underlying ht, hj]
    intro hc; omega
  have h4 : (str L).extract l (str L).size = str (L.drop l) := by
    apply ByteArray.ext
    rw [ByteArray.data_extract, str_size, str]
    apply Array.toList_inj.1
    simp [str, List.extract_eq_take_drop]
    exact List.take_of_length_le (by rw [List.length_drop]; exact Nat.le_refl _)
  rw [h4] at h3
  simp [execOp, F.ev hx, F.ev hl, run_sliceAt_string w t _ _ _ _ ht, h3]
end
theorem strs_add (a b : List UInt8) : str a ++ str b = str (a ++ b) := by
  apply ByteArray.ext
  simp [str]
theorem strs_true {a b : List UInt8} (h : ((str a).toList == (str b).toList) = true) : a = b := by
  rw [str_toList, str_toList] at h; exact eq_of_beq h
theorem strs_false {a b : List UInt8} (h : ((str a).toList == (str b).toList) = false) : a ≠ b := fun e => by
  rw [e, beq_self_eq_true] at h; cases h
theorem strs_of {a b : List UInt8} (h : a = b) : ((str a).toList == (str b).toList) = true := by rw [h]; exact beq_self_eq_true _
theorem strs_not {a b : List UInt8} (h : a = b) : (!((str a).toList == (str b).toList)) = false := by rw [strs_of h]; rfl
end Go.Gx
