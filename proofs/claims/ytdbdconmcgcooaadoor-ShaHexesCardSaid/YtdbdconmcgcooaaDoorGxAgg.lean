/-
  Own text: arrays and structs as values: whether two are the same; parts of them; slices of slices of bytes. Over any program.
-/
import Derived.Test.YtdbdconmcgcooaaDoorGxAux
import Derived.Stop.BytesEq
import Derived.ChangeKeysEq
set_option linter.unusedVariables false
namespace Go.Gx
open Go.RowKit

/-- An array of bytes as a value. -/
abbrev hv (a : List UInt8) : Value := .agg (a.map u8v).toArray
theorem cell_u8v : Extern.Stop.cell = u8v := rfl
section
variable {P : Program} {S : World → Prop} {n : Nat} {e : Env} {dst : Option Tmp} {rt : TypeId} {pos : String} {af : Array Edge} {gd : Option (Nat × Bool)}

/-- Two values of type t are compared: x == y just if b. -/
def EqV (P : Program) (d : Nat) (t : TypeId) (x y : Value) (b : Bool) : Prop := ∀ w, (Op.equalIn d t x y).run P w = .ok b w
theorem eqv_int {d : Nat} {t : TypeId} {k : IntKind} {X Y : Int} (ht : P.underlying t = some (.int k)) : EqV P (d + 1) t (.int k X) (.int k Y) (decide (X = Y)) := fun w => by
  rw [run_equalIn_int w d t k k _ _ ht]
  simp [BEq.beq]
theorem eqv_bool {d : Nat} {t : TypeId} {x y : Bool} (ht : P.underlying t = some .bool) : EqV P (d + 1) t (.bool x) (.bool y) (x == y) := fun w => by simp [Op.equalIn, run_underlying ht]
theorem eqv_hash {d : Nat} {t E : TypeId} {N : Nat} {a b : List UInt8} (ht : P.underlying t = some (.array N E)) (hE : P.underlying E = some (.int .u8)) (hsz : (P.info? E).map (·.size) = some 1) (ha : a.length = N) (hb : b.length = N) : EqV P (d + 2) t (hv a) (hv b) (a == b) := fun w => by
  obtain ⟨inf, hinf, hs1⟩ := Option.map_eq_some_iff.1 hsz
  exact run_equalIn_bytes w d t E N ht hE (fun w => by simp [sizeOf, typeInfo, program, Sem.run, hinf, hs1]) a b ha hb

theorem p_eqV {t t' : TypeId} {x y : Operand} {xs ys : Array Value} {b : Bool} (hg : P.eqGuardType P.depth t = false) (hx : ev e x = some (.agg xs)) (hy : ev e y = some (.agg ys)) (h : EqV P 10000 t (.agg xs) (.agg ys) b) : Pu P S n ⟨dst, .binOp .eql t x y t', rt, pos, af, gd⟩ e (.bool b) := fun a F w _ => by
  have h1 : (binOp .eql t (.agg xs) (.agg ys)).run P w = .ok (.bool b) w := by rw [run_eql_struct, h w]; rfl
  simp [execOp, F.ev hx, F.ev hy, run_eqGuard_agg w .eql t x y xs ys hg, h1]
theorem p_neV {t t' : TypeId} {x y : Operand} {xs ys : Array Value} {b : Bool} (hg : P.eqGuardType P.depth t = false) (hx : ev e x = some (.agg xs)) (hy : ev e y = some (.agg ys)) (h : EqV P 10000 t (.agg xs) (.agg ys) b) : Pu P S n ⟨dst, .binOp .neq t x y t', rt, pos, af, gd⟩ e (.bool (!b)) := fun a F w _ => by
  have h1 : (binOp .neq t (.agg xs) (.agg ys)).run P w = .ok (.bool (!b)) w := by rw [run_neq_struct, h w]; rfl
  simp [execOp, F.ev hx, F.ev hy, run_eqGuard_agg w .neq t x y xs ys hg, h1]
/-- Two arrays of bytes. -/
theorem p_eqH {t t' E : TypeId} {N : Nat} {x y : Operand} {a b : List UInt8} (hg : P.eqGuardType P.depth t = false) (ht : P.underlying t = some (.array N E)) (hE : P.underlying E = some (.int .u8)) (hsz : (P.info? E).map (·.size) = some 1) (hx : ev e x = some (hv a)) (hy : ev e y = some (hv b)) (ha : a.length = N) (hb : b.length = N) : Pu P S n ⟨dst, .binOp .eql t x y t', rt, pos, af, gd⟩ e (.bool (a == b)) :=
  p_eqV hg hx hy (eqv_hash (d := 9998) ht hE hsz ha hb)
theorem p_neH {t t' E : TypeId} {N : Nat} {x y : Operand} {a b : List UInt8} (hg : P.eqGuardType P.depth t = false) (ht : P.underlying t = some (.array N E)) (hE : P.underlying E = some (.int .u8)) (hsz : (P.info? E).map (·.size) = some 1) (hx : ev e x = some (hv a)) (hy : ev e y = some (hv b)) (ha : a.length = N) (hb : b.length = N) : Pu P S n ⟨dst, .binOp .neq t x y t', rt, pos, af, gd⟩ e (.bool (!(a == b))) :=
  p_neV hg hx hy (eqv_hash (d := 9998) ht hE hsz ha hb)
end

/-! ### Structs and arrays, part by part -/
section
variable {P : Program}
theorem run_part_flat {w : World} {t : TypeId} {D : TypeDesc} {cs : Array Value} {o : Nat} {v : Value} (ht : P.underlying t = some D) (hf : flatT D = true) (hv : cs[o]? = some v) : (part t cs o).run P w = .ok v w := by
  have ha : (isAgg t).run P w = .ok false w := by
    cases D <;> simp [flatT] at hf <;> simp [isAgg, run_underlying ht]
  simp [part, ha, hv]
theorem run_part_agg {w : World} {t : TypeId} {D : TypeDesc} {cs : Array Value} {o m : Nat} (ht : P.underlying t = some D) (hf : flatT D = false) (hi : (P.info? t).map (·.size) = some m) : (part t cs o).run P w = .ok (.agg (cs.extract o (o + m))) w := by
  obtain ⟨inf, hinf, rfl⟩ := Option.map_eq_some_iff.1 hi
  have ha : (isAgg t).run P w = .ok true w := by
    cases D <;> simp [flatT] at hf <;> simp [isAgg, run_underlying ht]
  simp [part, ha, sizeOf, typeInfo, hinf]
/-- The fields of two structs, compared in order. -/
def EqF (P : Program) (d : Nat) (xs ys : Array Value) (fs : List Field) (b : Bool) : Prop := ∀ w, (Op.eqFields d xs ys fs).run P w = .ok b w
theorem eqf_nil {d : Nat} {xs ys : Array Value} : EqF P d xs ys [] true := fun w => by simp [Op.eqFields]
theorem eqf_cons {d : Nat} {xs ys : Array Value} {f : Field} {fs : List Field} {x y : Value} {b c : Bool} (hn : (f.name != "_") = true) (hx : ∀ w, (part f.type xs f.offset).run P w = .ok x w) (hy : ∀ w, (part f.type ys f.offset).run P w = .ok y w) (h : EqV P d f.type x y b) (k : EqF P d xs ys fs c) : EqF P d xs ys (f :: fs) (b && c) := fun w => by
  have hn' : f.name ≠ "_" := by simpa using hn
  simp only [Op.eqFields, if_pos hn', Sem.run_bind, hx w, hy w, h w, Result.andThen_ok]
  cases b
  · simp
  · simp [k w]
theorem eqv_struct {d : Nat} {t : TypeId} {xs ys : Array Value} {fs : Array Field} {b : Bool} (ht : P.underlying t = some (.struct fs)) (hp : P.stoodInHeld t = false) (h : EqF P d xs ys fs.toList b) : EqV P (d + 1) t (.agg xs) (.agg ys) b := fun w => by
  have hfs : P.fieldsOf t = fs := by simp [Program.fieldsOf, ht]
  rw [run_equalIn_struct w d t xs ys (by rw [hfs]; exact ht) hp, hfs]
  exact h w
/-- Two arrays of two aggregates each. -/
theorem eqv_pair {d : Nat} {t E : TypeId} {i : TypeInfo} {D : TypeDesc} {xs ys : Array Value} {b0 b1 : Bool} (ht : P.underlying t = some (.array 2 E)) (hE : P.underlying E = some D) (hf : flatT D = false) (hi : P.info? E = some i) (hc : P.cellsOf E = i.size)
    (h0 : EqV P d E (.agg (xs.extract 0 (0 + i.size))) (.agg (ys.extract 0 (0 + i.size))) b0) (h1 : EqV P d E (.agg (xs.extract i.size (i.size + i.size))) (.agg (ys.extract i.size (i.size + i.size))) b1) : EqV P (d + 1) t (.agg xs) (.agg ys) (b0 && b1) := fun w => by
  have hi' : (P.info? E).map (·.size) = some i.size := by rw [hi]; rfl
  rw [run_equalIn_array w d xs ys ht hi, hc]
  show (Op.eqItems d E i.size xs ys [0, 1]).run P w = _
  have e0 : ∀ (cs : Array Value) w, (part E cs 0).run P w = .ok (.agg (cs.extract 0 (0 + i.size))) w := fun cs w => run_part_agg hE hf hi'
  have e2 : ∀ (cs : Array Value) w, (part E cs i.size).run P w = .ok (.agg (cs.extract i.size (i.size + i.size))) w := fun cs w => run_part_agg hE hf hi'
  have h0' : ∀ w, (Op.equalIn d E (.agg (xs.extract 0 (0 + i.size))) (.agg (ys.extract 0 (0 + i.size)))).run P w = .ok b0 w := h0
  have h1' : ∀ w, (Op.equalIn d E (.agg (xs.extract i.size (i.size + i.size))) (.agg (ys.extract i.size (i.size + i.size)))).run P w = .ok b1 w := h1
  simp only [Op.eqItems, Sem.run_bind, Nat.zero_mul, Nat.one_mul, e0, e2, h0', h1', Result.andThen_ok]
  cases b0 <;> cases b1 <;> simp [e2, h1']
end

/-! ### Results, of whatever kinds -/
inductive ResIs (P : Program) (e : Env) (w : World) : List ResultVar → List Value → Prop
  | nil : ResIs P e w [] []
  | tmp {t : Nat} {v : Value} {rs : List ResultVar} {vs : List Value} (h : look t e = some v) (k : ResIs P e w rs vs) : ResIs P e w (.tmp t :: rs) (v :: vs)
  | cellA {p ty g o : Nat} {cs : List Value} {D : TypeDesc} {rs : List ResultVar} {vs : List Value} (hl : look p e = some (.pointer (some ⟨g, o, none⟩))) (hd : P.underlying ty = some D) (hf : flatT D = false) (hi : (P.info? ty).map (·.size) = some cs.length) (hr : w.rangeAt g o cs) (k : ResIs P e w rs vs) : ResIs P e w (.cell p ty :: rs) (.agg cs.toArray :: vs)
  | cell1 {p ty : Nat} {A : Addr} {v : Value} {D : TypeDesc} {rs : List ResultVar} {vs : List Value} (hl : look p e = some (.pointer (some A))) (hd : P.underlying ty = some D) (hf : flatT D = true) (hc : w.cell? A = some v) (k : ResIs P e w rs vs) : ResIs P e w (.cell p ty :: rs) (v :: vs)
theorem ResIs.run {P : Program} {e : Env} {w : World} {n : Nat} {a : Act} (F : Fr n a e) : ∀ {rs : List ResultVar} {vs : List Value}, ResIs P e w rs vs →
    (rs.mapM (fun r : ResultVar => (match r with | .tmp t => pure (a.tmps.getD t undef) | .cell p t => do loadVar t (← asAddr (a.tmps.getD p undef)) : Sem Value))).run P w = .ok vs w := by
  intro rs vs h
  induction h with
  | nil => simp
  | tmp h k ih => simp only [List.mapM_cons, Sem.run_bind, Sem.run_pure, Result.andThen_ok, F.get _ _ h, ih]
  | @cellA p ty g o cs D rs vs hl hd hf hi hr k ih =>
    have h := run_loadVar_mid (P := P) w g o ty cs D hr hd (by cases D <;> simp [flatT] at hf <;> simp) hi
    have ha : ∀ A : Addr, (asAddr (.pointer (some A))).run P w = .ok A w := fun A => by simp [asAddr]
    simp only [List.mapM_cons, Sem.run_bind, Sem.run_pure, Result.andThen_ok, F.get _ _ hl, ha, h, ih]
  | @cell1 p ty A v D rs vs hl hd hf hc k ih =>
    have h := run_loadVar_flat (P := P) hd hf hc
    have ha : ∀ A : Addr, (asAddr (.pointer (some A))).run P w = .ok A w := fun A => by simp [asAddr]
    simp only [List.mapM_cons, Sem.run_bind, Sem.run_pure, Result.andThen_ok, F.get _ _ hl, ha, h, ih]
theorem resMany {P : Program} {e : Env} {w : World} {n : Nat} {fn : Func} {rs : List ResultVar} {vs : List Value} (hres : fn.results = rs.toArray) (h : ResIs P e w rs vs) (h1 : (vs.length == 1) = false) : ∀ a, Fr n a e → (results fn a.tmps).run P w = .ok (.tuple vs.toArray) w := fun a F => by
  have h2 := h.run F
  have h3 : ¬ vs.length = 1 := by simpa using h1
  unfold results
  rw [hres, List.mapM_toArray]
  simp only [Sem.run_bind, map_eq_pure_bind, Sem.run_pure]
  erw [h2]
  simp [Result.andThen_ok, h3]

/-- A part of a text. -/
theorem p_slT {P : Program} {S : World → Prop} {n : Nat} {e : Env} {dst : Option Tmp} {rt : TypeId} {pos : String} {af : Array Edge} {gd : Option (Nat × Bool)} {t : TypeId} {x lo hi : Operand} {s : ByteArray} {k k' : IntKind} {l h : Nat} (ht : P.underlying t = some .string) (hx : ev e x = some (.string s)) (hl : ev e lo = some (.int k (l : Int))) (hh : ev e hi = some (.int k' (h : Int))) (h1 : l ≤ h) (h2 : h ≤ s.data.toList.length) :
    Pu P S n ⟨dst, .slice t x (some lo) (some hi) none, rt, pos, af, gd⟩ e (.string (str ((s.data.toList.drop l).take (h - l)))) := fun a F w _ => by
  have hs : h ≤ s.size := by rw [Array.length_toList] at h2; exact h2
  have h3 := run_slice_string (P := P) w t s k k' l h ht (by omega) (by omega) (by omega)
  have h4 : s.extract l h = str ((s.data.toList.drop l).take (h - l)) := by
    apply ByteArray.ext
    rw [ByteArray.data_extract, str]
    apply Array.toList_inj.1
    simp [List.drop_take, List.extract_eq_take_drop]
  rw [Int.toNat_natCast, Int.toNat_natCast, h4] at h3
  simp [execOp, F.ev hx, F.ev hl, F.ev hh, run_sliceAt_string w t _ _ _ _ ht, h3]
theorem str_add (a b : List UInt8) : str a ++ str b = str (a ++ b) := by
  apply ByteArray.ext
  simp [str]
theorem str_nil : ByteArray.empty = str [] := rfl
theorem getDT {l : List UInt8} {i : Nat} (h : i < l.length) : l[i]? = some (l.getD i 0) := by simp [List.getD, List.getElem?_eq_getElem h]
theorem none_of {α : Type} {o : Option α} (h : (!o.isSome) = true) : o = none := by cases o <;> simp_all
theorem some_of {α : Type} {o : Option α} (h : (!o.isSome) = false) : ∃ x, o = some x := by cases o <;> simp_all
theorem b_of_nf {b : Bool} (h : (!b) = false) : b = true := by cases b <;> simp_all
theorem b_of_nt {b : Bool} (h : (!b) = true) : b = false := by cases b <;> simp_all
end Go.Gx
