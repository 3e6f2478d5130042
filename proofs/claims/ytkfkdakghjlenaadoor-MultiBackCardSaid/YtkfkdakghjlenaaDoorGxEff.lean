/-
  Own text: operations with an effect: allocations, stores, slice literals, appends, calls; cuts of slices and strings; bytes as a string.
-/
import Derived.Test.YtkfkdakghjlenaaDoorGxMem
import Derived.Lib.SlBytesConst
import Derived.Lib.ConvBytes
set_option linter.unusedSimpArgs false
set_option linter.unusedVariables false
namespace Go.Gx
open Go.RowKit

/-- A list of bytes as a string. -/
def str (bs : List UInt8) : ByteArray := ⟨bs.toArray⟩
theorem str_data (bs : List UInt8) : (str bs).data.toList = bs := by simp [str]
section
variable {P : Program} {Q : Exit → Act → World → Prop} {S : World → Prop} {n : Nat} {e : Env} {w : World} {rt : TypeId} {pos : String} {af : Array Edge} {gd : Option (Nat × Bool)} {d : Nat} {dst : Option Tmp} {K : Env → World → Prop}

theorem e_of_run {o : Oper} {v : Value} {w' : World} (hd : o.dst = some d) (hlt : Nat.blt d n = true) (hr : ∀ a, Fr n a e → (execOp a.eval o).run P w = .ok (.value v) w') (k : K ((d, v) :: e) w') : OpE P n o e w Q K := fun a F => .inl (by
  simp only [Oper.wp, hr a F, Oper.upon, hd]
  exact ⟨_, F.put hlt v, k⟩)
theorem e_of_run0 {o : Oper} {w' : World} (hd : o.dst = none) (hr : ∀ a, Fr n a e → (execOp a.eval o).run P w = .ok .skip w') (k : K e w') : OpE P n o e w Q K := fun a F => .inl (by
  simp only [Oper.wp, hr a F, Oper.upon, hd]
  exact ⟨_, F, k⟩)

/-- new(T), var x T that lives in memory. -/
theorem e_alloc {t : TypeId} {z : Value} {cs : Array Value} (hlt : Nat.blt d n = true) (hz : (P.info? t).map (·.zero) = some (some z)) (hcs : z.cells = cs)
    (k : ∀ w' g, g = w.heap.size → Blk w' g t cs → Ch No w w' → w'.heap.size = g + 1 → K ((d, .pointer (some ⟨g, 0, none⟩)) :: e) w') : OpE P n ⟨some d, .alloc t, rt, pos, af, gd⟩ e w Q K := by
  subst hcs
  obtain ⟨inf, hinf, hzz⟩ := Option.map_eq_some_iff.1 hz
  refine e_of_run rfl hlt (w' := w.alloc (.cells z.cells t)) (v := .pointer (some ⟨w.heap.size, 0, none⟩)) (fun a F => ?_) (k _ _ rfl (Blk.new w t _) (Ch.alloc w _) (by simp))
  have h : (Instr.alloc t true (.tuple #[])).run P w = .ok (.pointer (some ⟨w.heap.size, 0, none⟩)) (w.alloc (.cells z.cells t)) := by
    simp [Instr.alloc, zeroValue, typeInfo, hinf, hzz, newVar, newRow, newObj, Sem.run]
  simp [execOp, h]
/-- &x of a value: a new variable that holds it. -/
theorem e_box {t : TypeId} {x : Operand} {v : Value} {cs : Array Value} (hlt : Nat.blt d n = true) (hx : ev e x = some v) (hcs : v.cells = cs)
    (k : ∀ w' g, g = w.heap.size → Blk w' g t cs → Ch No w w' → w'.heap.size = g + 1 → K ((d, .pointer (some ⟨g, 0, none⟩)) :: e) w') : OpE P n ⟨some d, .box t x, rt, pos, af, gd⟩ e w Q K := by
  subst hcs
  refine e_of_run rfl hlt (w' := w.alloc (.cells v.cells t)) (v := .pointer (some ⟨w.heap.size, 0, none⟩)) (fun a F => ?_) (k _ _ rfl (Blk.new w t _) (Ch.alloc w _) (by simp))
  have h : (Instr.box t v).run P w = .ok (.pointer (some ⟨w.heap.size, 0, none⟩)) (w.alloc (.cells v.cells t)) := by
    simp [Instr.box, newVar, newRow, newObj, Sem.run]
  simp [execOp, F.ev hx, h]
/-- A slice literal: its run is a closed reckoning ('by kernel_rfl'). -/
theorem e_bsl {t E : TypeId} {l : Nat} {parts : Array (Nat × Operand)} {vs : List Value} {cs : Array Value} (hlt : Nat.blt d n = true) (hvs : evs e (parts.toList.map (·.2)) = some vs)
    (hr : ∀ w, (Instr.buildSlice t l ((parts.toList.map (·.1)).zip vs).toArray).run P w = .ok (.slice (some ⟨w.heap.size, 0, none⟩) l l) (w.alloc (.cells cs E)))
    (k : ∀ w' g, g = w.heap.size → Blk w' g E cs → Ch No w w' → w'.heap.size = g + 1 → K ((d, .slice (some ⟨g, 0, none⟩) l l) :: e) w') : OpE P n ⟨some d, .buildSlice t l parts, rt, pos, af, gd⟩ e w Q K := by
  refine e_of_run rfl hlt (fun a F => ?_) (k _ _ rfl (Blk.new w E _) (Ch.alloc w _) (by simp))
  have h2 : (parts.map fun (i, x) => (i, a.eval x)) = ((parts.toList.map (·.1)).zip vs).toArray := by
    rw [← F.evs hvs]
    apply Array.toList_inj.1
    simp only [Array.toList_map, List.map_map]
    generalize parts.toList = ps
    induction ps with
    | nil => rfl
    | cons p r ih => simp [ih]
  simp [execOp, h2, hr w]
/-- A slice literal of elements of one cell each, all given, in order. -/
theorem e_bslV {t E : TypeId} {l : Nat} {parts : Array (Nat × Operand)} {vs : List Value} (hlt : Nat.blt d n = true) (hvs : evs e (parts.toList.map (·.2)) = some vs)
    (hr : ∀ w, (Instr.buildSlice t l ((parts.toList.map (·.1)).zip vs).toArray).run P w = .ok (.slice (some ⟨w.heap.size, 0, none⟩) l l) (w.alloc (.cells vs.toArray E)))
    (k : ∀ w' g, g = w.heap.size → Blk w' g E vs.toArray → Ch No w w' → w'.heap.size = g + 1 → K ((d, .slice (some ⟨g, 0, none⟩) l l) :: e) w') : OpE P n ⟨some d, .buildSlice t l parts, rt, pos, af, gd⟩ e w Q K := e_bsl hlt hvs hr k
/-- A slice literal of elements of more cells, all given, in order. -/
theorem e_bslC {t E : TypeId} {l : Nat} {parts : Array (Nat × Operand)} {vs : List Value} (hlt : Nat.blt d n = true) (hvs : evs e (parts.toList.map (·.2)) = some vs)
    (hr : ∀ w, (Instr.buildSlice t l ((parts.toList.map (·.1)).zip vs).toArray).run P w = .ok (.slice (some ⟨w.heap.size, 0, none⟩) l l) (w.alloc (.cells (vs.flatMap fun v => v.cells.toList).toArray E)))
    (k : ∀ w' g, g = w.heap.size → Blk w' g E (vs.flatMap fun v => v.cells.toList).toArray → Ch No w w' → w'.heap.size = g + 1 → K ((d, .slice (some ⟨g, 0, none⟩) l l) :: e) w') : OpE P n ⟨some d, .buildSlice t l parts, rt, pos, af, gd⟩ e w Q K := e_bsl hlt hvs hr k
/-- An array or struct out of parts of one cell each, all given, in order. -/
theorem p_bldV {t : TypeId} {parts : Array (Nat × Operand)} {vs : List Value} (hvs : evs e (parts.toList.map (·.2)) = some vs) (hr : ∀ w, (Instr.build t ((parts.toList.map (·.1)).zip vs).toArray).run P w = .ok (.agg vs.toArray) w) : Pu P S n ⟨dst, .build t parts, rt, pos, af, gd⟩ e (.agg vs.toArray) := fun a F w _ => by
  have h2 : (parts.map fun (i, x) => (i, a.eval x)) = ((parts.toList.map (·.1)).zip vs).toArray := by
    rw [← F.evs hvs]
    apply Array.toList_inj.1
    simp only [Array.toList_map, List.map_map]
    generalize parts.toList = ps
    induction ps with
    | nil => rfl
    | cons p r ih => simp [ih]
  simp [execOp, h2, hr w]
theorem p_bldP {t : TypeId} {parts : Array (Nat × Operand)} {vs : List Value} {cs : Array Value} (hvs : evs e (parts.toList.map (·.2)) = some vs) (hr : ∀ w, (Instr.build t ((parts.toList.map (·.1)).zip vs).toArray).run P w = .ok (.agg cs) w) : Pu P S n ⟨dst, .build t parts, rt, pos, af, gd⟩ e (.agg cs) := fun a F w _ => by
  have h2 : (parts.map fun (i, x) => (i, a.eval x)) = ((parts.toList.map (·.1)).zip vs).toArray := by
    rw [← F.evs hvs]
    apply Array.toList_inj.1
    simp only [Array.toList_map, List.map_map]
    generalize parts.toList = ps
    induction ps with
    | nil => rfl
    | cons p r ih => simp [ih]
  simp [execOp, h2, hr w]
theorem allOne {vs : List Value} (h : vs.all Value.oneCell' = true) : ∀ v ∈ vs, v.oneCell' = true := fun v hv => List.all_eq_true.1 h v hv
theorem run_storeVar_one {t : TypeId} {g o : Nat} {E : TypeId} {cs : Array Value} {v : Value} (hi : (P.info? t).map (·.size) = some 1) (h1 : v.oneCell' = true) (hb : Blk w g E cs) (ho : o < cs.size) : (storeVar t ⟨g, o, none⟩ v).run P w = .ok () (w.setCell ⟨g, o, none⟩ v) := by
  obtain ⟨inf, hinf, hsz⟩ := Option.map_eq_some_iff.1 hi
  have hc : v.cells = #[v] := by cases v <;> simp [Value.oneCell'] at h1 <;> rfl
  have hcell : w.cell? ⟨g, o, none⟩ = some cs[o] := hb.cell (by simp [ho])
  simp [storeVar, sizeOf, typeInfo, hinf, hsz, hc, storeCells, Addr.add, run_store P w _ v _ h1, hcell, hb.free o]
theorem e_st {t : TypeId} {x y : Operand} {g o : Nat} {E : TypeId} {cs : Array Value} {v : Value} (hi : (P.info? t).map (·.size) = some 1) (h1 : v.oneCell' = true) (hx : ev e x = some (.pointer (some ⟨g, o, none⟩))) (hy : ev e y = some v) (hb : Blk w g E cs) (ho : o < cs.size)
    (k : ∀ w', Blk w' g E (cs.setIfInBounds o v) → Ch (fun k => k = g) w w' → w'.heap.size = w.heap.size → K e w') : OpE P n ⟨none, .store t x y, rt, pos, af, gd⟩ e w Q K := by
  refine e_of_run0 rfl (w' := w.setCell ⟨g, o, none⟩ v) (fun a F => ?_) (k _ (hb.set o v) (Ch.setCell w ⟨g, o, none⟩ v) (by simp [World.setCell]))
  simp [execOp, F.ev hx, F.ev hy, Instr.storeAt, Instr.sureAddr, run_storeVar_one hi h1 hb ho]
/-- A whole array or struct is stored. -/
theorem setCells_blk {g : Nat} {E : TypeId} : ∀ (vs : List Value) (o : Nat) (w : World) (cs : Array Value), Blk w g E cs → o + vs.length ≤ cs.size → ∃ cs', Blk (w.setCells g o vs) g E cs' ∧ cs'.toList = cs.toList.take o ++ vs ++ cs.toList.drop (o + vs.length) ∧ Ch (fun k => k = g) w (w.setCells g o vs) ∧ (w.setCells g o vs).heap.size = w.heap.size
  | [], o, w, cs, hb, h => ⟨cs, hb, by simp, Ch.refl _ _, rfl⟩
  | v :: r, o, w, cs, hb, h => by
    have hb1 := hb.set o v
    obtain ⟨cs', h1, h2, h3, h4⟩ := setCells_blk r (o + 1) (w.setCell ⟨g, o, none⟩ v) _ hb1 (by simp at h ⊢; omega)
    refine ⟨cs', h1, ?_, (Ch.setCell w ⟨g, o, none⟩ v).trans h3 (fun _ _ h => h) (fun _ _ h => h), by rw [show (w.setCells g o (v :: r)) = ((w.setCell ⟨g, o, none⟩ v).setCells g (o + 1) r) from rfl, h4]; simp [World.setCell]⟩
    rw [h2]
    have ho : o < cs.toList.length := by simp at h ⊢; omega
    rw [Array.toList_setIfInBounds]
    have e1 : (cs.toList.set o v).take (o + 1) = cs.toList.take o ++ [v] := by
      rw [List.take_succ_eq_append_getElem (by simpa using ho)]
      simp [List.take_set_of_le]
    have e2 : (cs.toList.set o v).drop (o + 1 + r.length) = cs.toList.drop (o + (r.length + 1)) := by
      rw [List.drop_set_of_lt (by omega)]; congr 1; omega
    rw [e1, e2]; simp
theorem e_stA {t : TypeId} {x y : Operand} {g o : Nat} {E : TypeId} {cs : Array Value} {vs : List Value} (hi : (P.info? t).map (·.size) = some vs.length) (h1 : ∀ v ∈ vs, v.oneCell' = true) (hx : ev e x = some (.pointer (some ⟨g, o, none⟩))) (hy : ev e y = some (.agg vs.toArray)) (hb : Blk w g E cs) (ho : o + vs.length ≤ cs.size)
    (k : ∀ w' cs', Blk w' g E cs' → cs'.toList = cs.toList.take o ++ vs ++ cs.toList.drop (o + vs.length) → Ch (fun k => k = g) w w' → w'.heap.size = w.heap.size → K e w') : OpE P n ⟨none, .store t x y, rt, pos, af, gd⟩ e w Q K := by
  obtain ⟨cs', h2, h3, h4, h5⟩ := setCells_blk vs o w cs hb ho
  refine e_of_run0 rfl (w' := w.setCells g o vs) (fun a F => ?_) (k _ cs' h2 h3 h4 h5)
  have ht : w.there g o vs.toArray.size := fun j hj => by
    have hj' : o + j < cs.size := by simp at hj; omega
    refine ⟨?_, hb.free _⟩
    rw [hb.cell (i := o + j) (v := cs[o + j]) (by simp [hj'])]; rfl
  have := run_storeAt_mid (P := P) w g o t vs.toArray ht (by simpa using hi) (all_oneCell_toArray h1)
  simp at this
  simp [execOp, F.ev hx, F.ev hy, this]

/-- What of an element's type an append looks at. -/
structure ElT (P : Program) (t E : TypeId) (sz by_ : Nat) : Prop where
  under : P.underlying t = some (.slice E)
  info : ∃ i z, P.info? E = some i ∧ i.zero = some z ∧ i.size = sz ∧ i.bytes = by_ ∧ z.cells.size = sz
  pos : 0 < sz
/-- append(s, x...), s a row of the call's own. -/
theorem e_app {t E : TypeId} {s x : Operand} {sz by_ : Nat} {v : Value} {l m c : Nat} {xs news : List Value} {F Fx : Nat → Prop} {A : Option Addr} (hlt : Nat.blt d n = true) (ht : ElT P t E sz by_) (hs : ev e s = some v) (hx : ev e x = some (.slice A m c)) (R : Row w F E sz v l xs) (X : Rd w Fx A news) (hl : news.length = m * sz) (h1 : ∀ u ∈ news, u.oneCell' = true)
    (hb : (l + m) * by_ ≤ 140737488355328) (h63 : l + m ≤ maxLen) (hF : ∀ k, w.heap.size ≤ k → F k)
    (k : ∀ w' v', Row w' F E sz v' (l + m) (xs ++ news) → Ch F w w' → K ((d, v') :: e) w') : OpE P n ⟨some d, .call { callee := .builtin .append, args := #[s, x], argTypes := #[t, t] }, rt, pos, af, gd⟩ e w Q K := by
  obtain ⟨i, z, hi, hz, hsize, hby, hzs⟩ := ht.info
  have hrun : ∃ v' w', (Builtin.append_ #[t, t] rt #[v, .slice A m c]).run P w = .ok v' w' ∧ Row w' F E sz v' (l + m) (xs ++ news) ∧ Ch F w w' := by
    by_cases hm : m = 0
    · subst hm
      have hn : news = [] := List.eq_nil_of_length_eq_zero (by simpa using hl)
      subst hn
      refine ⟨v, w, ?_, by simpa using R, Ch.refl _ _⟩
      rcases R.own.2 with ⟨rfl, rfl⟩ | ⟨g, cap, cur, rfl, _, _, hnc, _⟩
      · cases A <;> simp [Builtin.append_, run_underlying ht.under, sizeOf, typeInfo, hi, Builtin.lenOf, Builtin.firstCells, loadCells, loadCellsFrom]
      · cases A <;> simp [Builtin.append_, run_underlying ht.under, sizeOf, typeInfo, hi, Builtin.lenOf, Builtin.firstCells, hnc, storeCells, loadCells, loadCellsFrom]
    · have hne : news ≠ [] := by
        intro h; subst h
        have : 0 < m * sz := Nat.mul_pos (by omega) ht.pos
        simp only [List.length_nil] at hl; omega
      rcases X with h | ⟨b, o, rfl, _, hc⟩
      · exact absurd h hne
      · obtain ⟨v', w', hr, h2, h3, _, h5⟩ := run_append_own_at (P := P) w 0 t rt E i z sz by_ ht.under hi hz hsize hby hzs ht.pos v l xs R.own ⟨b, o, none⟩ m c news hl (fun j u hj => by rw [Addr.add_mid]; exact hc j u hj) h1 h63 hb (Nat.zero_le _)
        refine ⟨v', w', hr, ⟨h2, fun k hk => ?_⟩, Ch.of_grown h3 (fun k hk => R.at_ k hk)⟩
        rcases h5 with h5 | h5
        · exact R.at_ k (h5 ▸ hk)
        · rw [h5] at hk; cases hk; exact hF _ (Nat.le_refl _)
  obtain ⟨v', w', hr, h2, h3⟩ := hrun
  refine e_of_run rfl hlt (fun a Fr => ?_) (k w' v' h2 h3)
  simp [execOp, resolve, invoke, builtin, Fr.ev hs, Fr.ev hx, hr]
/-- Function f has a body. -/
def Ent (P : Program) (f : FuncId) : Prop := ∃ fn c, P.funcs[f]? = some fn ∧ (fn.name == "runtime.NumGoroutine") = false ∧ fn.body = some c
theorem run_enter {f : FuncId} (hf : Ent P f) (args : Array Value) : (callFunc f args).run P w = .ok (.enter f args) w := by
  obtain ⟨fn, c, h1, h2, h3⟩ := hf
  have h2' : ¬ fn.name = "runtime.NumGoroutine" := by simpa using h2
  simp [callFunc, program, Sem.run, h1, h2', h3]
/-- A call of a function, by its contract. -/
theorem e_call {f : FuncId} (hf : Ent P f) {xs : Array Operand} {ts : Array TypeId} {vs : List Value} {R : Ending → World → Prop} (hlt : Nat.blt d n = true) (hvs : evs e xs.toList = some vs) (hc : Calls P f vs.toArray w R)
    (k : ∀ ed w', R ed w' → ∃ v, ed = .returned v ∧ K ((d, v) :: e) w') : OpE P n ⟨some d, .call { callee := .value (.func f), args := xs, argTypes := ts }, rt, pos, af, gd⟩ e w Q K := fun a F => .inl (by
  have hargs : xs.map a.eval = vs.toArray := by
    apply Array.toList_inj.1
    rw [Array.toList_map, F.evs hvs]
  have hr : (execOp a.eval ⟨some d, .call { callee := .value (.func f), args := xs, argTypes := ts }, rt, pos, af, gd⟩).run P w = .ok (.enter f vs.toArray) w := by
    simp only [execOp, resolve, hargs, Act.eval, Deferred.ofValue]
    simp [invoke, run_enter hf]
  simp only [Oper.wp, hr, Oper.upon]
  refine hc.mono fun ed w' hR => ?_
  obtain ⟨v, rfl, hK⟩ := k ed w' hR
  exact ⟨_, F.put hlt v, hK⟩)
/-! ### Cuts -/
/-- s[l:h] of a slice. -/
theorem p_slS {t E : TypeId} {x : Operand} {lo hi : Option Operand} {A : Option Addr} {len c sz l h q : Nat} (ht : P.underlying t = some (.slice E)) (hsz : (P.info? E).map (·.size) = some sz) (hx : ev e x = some (.slice A len c))
    (hl : match lo with | none => l = 0 | some y => ∃ k, ev e y = some (.int k (l : Int))) (hh : match hi with | none => h = len | some y => ∃ k, ev e y = some (.int k (h : Int))) (h1 : l ≤ h) (h2 : h ≤ c) (hlc : len ≤ c) (hq : h - l = q := by rfl) :
    Pu P S n ⟨dst, .slice t x lo hi none, rt, pos, af, gd⟩ e (.slice (cutA A c l sz) q (c - l)) := fun a F w _ => by
  subst hq
  obtain ⟨inf, hinf, rfl⟩ := Option.map_eq_some_iff.1 hsz
  have hs : P.elem t = E := by simp [Program.elem, ht]
  have key : (Instr.sliceAt t (.slice A len c) (lo.map a.eval) (hi.map a.eval) none).run P w = .ok (.slice (cutA A c l inf.size) (h - l) (c - l)) w := by
    rw [run_sliceAt_slice w t (.slice A len c) _ _ _ (by rw [hs]; exact ht)]
    cases lo with
    | none =>
      simp only at hl; subst hl
      cases hi with
      | none => simp only at hh; subst hh; rw [Option.map_none, run_slice_all w t A h c (by rw [hs]; exact ht), hs]; simp [sizeOf, typeInfo, hinf, sliced, cutA]
      | some y =>
        obtain ⟨k, hk⟩ := hh
        rw [Option.map_none, Option.map_some, F.ev hk, run_slice_h w t A len c (by rw [hs]; exact ht) k (h : Int) (by omega) (by omega), hs]; simp [sizeOf, typeInfo, hinf, sliced, cutA]
    | some z =>
      obtain ⟨k, hk⟩ := hl
      cases hi with
      | none => simp only at hh; subst hh; rw [Option.map_none, Option.map_some, F.ev hk, run_slice_l w t A h c (by rw [hs]; exact ht) k (l : Int) (by omega) (by omega), hs]; simp [sizeOf, typeInfo, hinf, sliced, cutA]
      | some y =>
        obtain ⟨k', hk'⟩ := hh
        rw [Option.map_some, Option.map_some, F.ev hk, F.ev hk', run_slice_lh w t A len c (by rw [hs]; exact ht) k k' (l : Int) (h : Int) (by omega) (by omega) (by omega), hs]; simp [sizeOf, typeInfo, hinf, sliced, cutA]
  simp [execOp, F.ev hx, key]
/-- arr[l:h] of an array behind a pointer. -/
theorem p_slA {t E : TypeId} {x : Operand} {lo hi : Option Operand} {b o N sz l h : Nat} (ht : P.underlying t = some (.array N E)) (hsz : (P.info? E).map (·.size) = some sz) (hx : ev e x = some (.pointer (some ⟨b, o, none⟩)))
    (hl : match lo with | none => l = 0 | some y => ∃ k, ev e y = some (.int k (l : Int))) (hh : match hi with | none => h = N | some y => ∃ k, ev e y = some (.int k (h : Int))) (h1 : l ≤ h) (h2 : h ≤ N) :
    Pu P S n ⟨dst, .slice t x lo hi none, rt, pos, af, gd⟩ e (.slice (some (if N = l then ⟨b, o, none⟩ else ⟨b, o + l * sz, none⟩)) (h - l) (N - l)) := fun a F w _ => by
  obtain ⟨inf, hinf, rfl⟩ := Option.map_eq_some_iff.1 hsz
  have hs : P.elem t = E := by simp [Program.elem, ht]
  have hN : P.arrayLen t = N := by simp [Program.arrayLen, ht]
  have hu : P.underlying t = some (.array (P.arrayLen t) (P.elem t)) := by rw [hN, hs]; exact ht
  have key : (Instr.sliceAt t (.pointer (some ⟨b, o, none⟩)) (lo.map a.eval) (hi.map a.eval) none).run P w = .ok (.slice (some (if N = l then ⟨b, o, none⟩ else ⟨b, o + l * inf.size, none⟩)) (h - l) (N - l)) w := by
    cases lo with
    | none =>
      simp only at hl; subst hl
      cases hi with
      | none => simp only at hh; subst hh; rw [Option.map_none, run_sliceAt_array_all w t ⟨b, o, none⟩ hu, hs, hN]; simp [sizeOf, typeInfo, hinf, slicedAt, Addr.add_mid]
      | some y =>
        obtain ⟨k, hk⟩ := hh
        rw [Option.map_none, Option.map_some, F.ev hk, run_sliceAt_array_h w t ⟨b, o, none⟩ hu k (h : Int) (by omega) (by omega), hs, hN]; simp [sizeOf, typeInfo, hinf, slicedAt, Addr.add_mid]
    | some z =>
      obtain ⟨k, hk⟩ := hl
      cases hi with
      | none => simp only at hh; subst hh; rw [Option.map_none, Option.map_some, F.ev hk, run_sliceAt_array_l w t ⟨b, o, none⟩ hu k (l : Int) (by omega) (by omega), hs, hN]; simp [sizeOf, typeInfo, hinf, slicedAt, Addr.add_mid]
      | some y =>
        obtain ⟨k', hk'⟩ := hh
        rw [Option.map_some, Option.map_some, F.ev hk, F.ev hk', run_sliceAt_array_lh w t ⟨b, o, none⟩ hu k k' (l : Int) (h : Int) (by omega) (by omega) (by omega), hs, hN]; simp [sizeOf, typeInfo, hinf, slicedAt, Addr.add_mid]
  simp [execOp, F.ev hx, key]
/-- string(b): the bytes that a slice leads to. -/
theorem p_bts {t u E : TypeId} {x : Operand} {A : Option Addr} {l c : Nat} {bs : List UInt8} {F : Nat → Prop} (ht : P.underlying t = some (.slice E)) (hE : P.underlying E = some (.int .u8)) (hu : P.underlying u = some .string) (hx : ev e x = some (.slice A l c)) (hl : bs.length = l) (hr : ∀ w, S w → Rd w F A (bs.map u8v)) :
    Pu P S n ⟨dst, .convert t u x, rt, pos, af, gd⟩ e (.string (str bs)) := fun a Fr w hw => by
  have key : (convert t u (.slice A l c)).run P w = .ok (.string (str bs)) w := by
    rcases hr w hw with h | ⟨b, o, rfl, _, hc⟩
    · have hbs : bs = [] := by simpa using h
      subst hbs
      have hl0 : l = 0 := by simpa using hl.symm
      subst hl0
      cases A with
      | none => exact run_convert_bytes_nil (P := P) w t E ht hE 0 c u hu
      | some ad =>
        rw [run_convert_bytes_string w t u E _ 0 c ht hE hu]
        simp [Conv.bytesToString, loadCells, loadCellsFrom, str, ByteArray.empty, ByteArray.emptyWithCapacity]
        rfl
    · have h := run_convert_bytes_arg (P := P) w t E ht hE b o l c (bs.map fun b => (b.toNat : Int)) (by simpa using hl) (fun i hi => by
        have := hc i (u8v (bs[i]'(by omega))) (by simp [List.getElem?_eq_getElem (show i < bs.length by omega)])
        rw [this]
        simp [List.getElem?_eq_getElem (show i < bs.length by omega)]) u hu
      rw [h]
      have : (bs.map fun b => (b.toNat : Int)).map (fun n : Int => UInt8.ofNat n.toNat) = bs := by
        rw [List.map_map]
        conv => rhs; rw [← List.map_id bs]
        exact List.map_congr_left fun b _ => by simp
      simp only [str, strOfNums, this]
  simp [execOp, Fr.ev hx, key]
end
end Go.Gx
