/-
  Own text: arrays and structs as values: whether two are the same; parts of them; slices of slices of bytes. Over any program.
-/
import Derived.Test.YtkfkdakghjlenaaDoorGxAux
import Derived.Stop.BytesEq
import Derived.ChangeKeysEq
set_option linter.unusedSimpArgs false
set_option linter.unusedVariables false
namespace Go.Gx
open Go.RowKit

/-- An array of bytes as a value. -/
abbrev hv (a : List UInt8) : Value := .agg (a.map u8v).toArray
section
variable {P : Program} {S : World → Prop} {n : Nat} {e : Env} {dst : Option Tmp} {rt : TypeId} {pos : String} {af : Array Edge} {gd : Option (Nat × Bool)}

/-- Two values of type t are compared: x == y just if b. -/
def EqV (P : Program) (d : Nat) (t : TypeId) (x y : Value) (b : Bool) : Prop := ∀ w, (Op.equalIn d t x y).run P w = .ok b w
theorem eqv_int {d : Nat} {t : TypeId} {k : IntKind} {X Y : Int} (ht : P.underlying t = some (.int k)) : EqV P (d + 1) t (.int k X) (.int k Y) (decide (X = Y)) := fun w => by
  rw [run_equalIn_int w d t k k _ _ ht]
  simp [BEq.beq]
theorem eqv_hash {d : Nat} {t E : TypeId} {N : Nat} {a b : List UInt8} (ht : P.underlying t = some (.array N E)) (hE : P.underlying E = some (.int .u8)) (hsz : (P.info? E).map (·.size) = some 1) (ha : a.length = N) (hb : b.length = N) : EqV P (d + 2) t (hv a) (hv b) (a == b) := fun w => by
  obtain ⟨inf, hinf, hs1⟩ := Option.map_eq_some_iff.1 hsz
  exact run_equalIn_bytes w d t E N ht hE (fun w => by simp [sizeOf, typeInfo, program, Sem.run, hinf, hs1]) a b ha hb

theorem p_eqV {t t' : TypeId} {x y : Operand} {xs ys : Array Value} {b : Bool} (hg : P.eqGuardType P.depth t = false) (hx : ev e x = some (.agg xs)) (hy : ev e y = some (.agg ys)) (h : EqV P 10000 t (.agg xs) (.agg ys) b) : Pu P S n ⟨dst, .binOp .eql t x y t', rt, pos, af, gd⟩ e (.bool b) := fun a F w _ => by
  have h1 : (binOp .eql t (.agg xs) (.agg ys)).run P w = .ok (.bool b) w := by rw [run_eql_struct, h w]; rfl
  simp [execOp, F.ev hx, F.ev hy, run_eqGuard_agg w .eql t x y xs ys hg, h1]
theorem p_neV {t t' : TypeId} {x y : Operand} {xs ys : Array Value} {b : Bool} (hg : P.eqGuardType P.depth t = false) (hx : ev e x = some (.agg xs)) (hy : ev e y = some (.agg ys)) (h : EqV P 10000 t (.agg xs) (.agg ys) b) : Pu P S n ⟨dst, .binOp .neq t x y t', rt, pos, af, gd⟩ e (.bool (!b)) := fun a F w _ => by
  have h1 : (binOp .neq t (.agg xs) (.agg ys)).run P w = .ok (.bool (!b)) w := by rw [run_neq_struct, h w]; rfl
  simp [execOp, F.ev hx, F.ev hy, run_eqGuard_agg w .neq t x y xs ys hg, h1]
/-- Two arrays of bytes. -/
theorem p_eqH {t t' E : TypeId} {N : Nat} {x y : Operand} {a b : List UInt8} (hg : P.eqGuardType P.depth t = false) (ht : P.underlying t = some (.array N E)) (hE : P.underlying E = some (.int .u8)) (hsz : (P.info? E).map (·.size) = some 1) (hx : ev e x = some (hv a)) (hy : ev e y = some (hv b)) (ha : a.length = N) (hb : b.length = N) : Pu P S n ⟨dst, .binOp .eql t x y t', rt, pos, af, gd⟩ e (.bool (a == b)) :=
  p_eqV hg hx hy (eqv_hash (d := 9998) ht hE hsz ha hb)
theorem p_neH {t t' E : TypeId} {N : Nat} {x y : Operand} {a b : List UInt8} (hg : P.eqGuardType P.depth t = false) (ht : P.underlying t = some (.array N E)) (hE : P.underlying E = some (.int .u8)) (hsz : (P.info? E).map (·.size) = some 1) (hx : ev e x = some (hv a)) (hy : ev e y = some (hv b)) (ha : a.length = N) (hb : b.length = N) : Pu P S n ⟨dst, .binOp .neq t x y t', rt, pos, af, gd⟩ e (.bool (!(a == b))) :=
  p_neV hg hx hy (eqv_hash (d := 9998) ht hE hsz ha hb)
end

/-! ### Structs and arrays, part by part -/
section
variable {P : Program}
theorem run_part_flat {w : World} {t : TypeId} {D : TypeDesc} {cs : Array Value} {o : Nat} {v : Value} (ht : P.underlying t = some D) (hf : flatT D = true) (hv : cs[o]? = some v) : (part t cs o).run P w = .ok v w := by
  have ha : (isAgg t).run P w = .ok false w := by
    cases D <;> simp [flatT] at hf <;> simp [isAgg, run_underlying ht]
  simp [part, ha, hv]
theorem run_part_agg {w : World} {t : TypeId} {D : TypeDesc} {cs : Array Value} {o m : Nat} (ht : P.underlying t = some D) (hf : flatT D = false) (hi : (P.info? t).map (·.size) = some m) : (part t cs o).run P w = .ok (.agg (cs.extract o (o + m))) w := by
  obtain ⟨inf, hinf, rfl⟩ := Option.map_eq_some_iff.1 hi
  have ha : (isAgg t).run P w = .ok true w := by
    cases D <;> simp [flatT] at hf <;> simp [isAgg, run_underlying ht]
  simp [part, ha, sizeOf, typeInfo, hinf]
/-- The fields of two structs, compared in order. -/
def EqF (P : Program) (d : Nat) (xs ys : Array Value) (fs : List Field) (b : Bool) : Prop := ∀ w, (Op.eqFields d xs ys fs).run P w = .ok b w
theorem eqf_nil {d : Nat} {xs ys : Array Value} : EqF P d xs ys [] true := fun w => by simp [Op.eqFields]
theorem eqf_cons {d : Nat} {xs ys : Array Value} {f : Field} {fs : List Field} {x y : Value} {b c : Bool} (hn : (f.name != "_") = true) (hx : ∀ w, (part f.type xs f.offset).run P w = .ok x w) (hy : ∀ w, (part f.type ys f.offset).run P w = .ok y w) (h : EqV P d f.type x y b) (k : EqF P d xs ys fs c) : EqF P d xs ys (f :: fs) (b && c) := fun w => by
  have hn' : f.name ≠ "_" := by simpa using hn
  simp only [Op.eqFields, if_pos hn', Sem.run_bind, hx w, hy w, h w, Result.andThen_ok]
  cases b
  · simp
  · simp [k w]
theorem eqv_struct {d : Nat} {t : TypeId} {xs ys : Array Value} {fs : Array Field} {b : Bool} (ht : P.underlying t = some (.struct fs)) (hp : P.stoodInHeld t = false) (h : EqF P d xs ys fs.toList b) : EqV P (d + 1) t (.agg xs) (.agg ys) b := fun w => by
  have hfs : P.fieldsOf t = fs := by simp [Program.fieldsOf, ht]
  rw [run_equalIn_struct w d t xs ys (by rw [hfs]; exact ht) hp, hfs]
  exact h w
end

/-! ### Results, of whatever kinds -/
inductive ResIs (P : Program) (e : Env) (w : World) : List ResultVar → List Value → Prop
  | nil : ResIs P e w [] []
  | tmp {t : Nat} {v : Value} {rs : List ResultVar} {vs : List Value} (h : look t e = some v) (k : ResIs P e w rs vs) : ResIs P e w (.tmp t :: rs) (v :: vs)
  | cellA {p ty g o : Nat} {cs : List Value} {D : TypeDesc} {rs : List ResultVar} {vs : List Value} (hl : look p e = some (.pointer (some ⟨g, o, none⟩))) (hd : P.underlying ty = some D) (hf : flatT D = false) (hi : (P.info? ty).map (·.size) = some cs.length) (hr : w.rangeAt g o cs) (k : ResIs P e w rs vs) : ResIs P e w (.cell p ty :: rs) (.agg cs.toArray :: vs)
  | cell1 {p ty : Nat} {A : Addr} {v : Value} {D : TypeDesc} {rs : List ResultVar} {vs : List Value} (hl : look p e = some (.pointer (some A))) (hd : P.underlying ty = some D) (hf : flatT D = true) (hc : w.cell? A = some v) (k : ResIs P e w rs vs) : ResIs P e w (.cell p ty :: rs) (v :: vs)
theorem ResIs.run {P : Program} {e : Env} {w : World} {n : Nat} {a : Act} (F : Fr n a e) : ∀ {rs : List ResultVar} {vs : List Value}, ResIs P e w rs vs →
    (rs.mapM (fun r : ResultVar => (match r with | .tmp t => pure (a.tmps.getD t undef) | .cell p t => do loadVar t (← asAddr (a.tmps.getD p undef)) : Sem Value))).run P w = .ok vs w := by
  intro rs vs h
  induction h with
  | nil => simp
  | tmp h k ih => simp only [List.mapM_cons, Sem.run_bind, Sem.run_pure, Result.andThen_ok, F.get _ _ h, ih]
  | @cellA p ty g o cs D rs vs hl hd hf hi hr k ih =>
    have h := run_loadVar_mid (P := P) w g o ty cs D hr hd (by cases D <;> simp [flatT] at hf <;> simp) hi
    have ha : ∀ A : Addr, (asAddr (.pointer (some A))).run P w = .ok A w := fun A => by simp [asAddr]
    simp only [List.mapM_cons, Sem.run_bind, Sem.run_pure, Result.andThen_ok, F.get _ _ hl, ha, h, ih]
  | @cell1 p ty A v D rs vs hl hd hf hc k ih =>
    have h := run_loadVar_flat (P := P) hd hf hc
    have ha : ∀ A : Addr, (asAddr (.pointer (some A))).run P w = .ok A w := fun A => by simp [asAddr]
    simp only [List.mapM_cons, Sem.run_bind, Sem.run_pure, Result.andThen_ok, F.get _ _ hl, ha, h, ih]
theorem resMany {P : Program} {e : Env} {w : World} {n : Nat} {fn : Func} {rs : List ResultVar} {vs : List Value} (hres : fn.results = rs.toArray) (h : ResIs P e w rs vs) (h1 : (vs.length == 1) = false) : ∀ a, Fr n a e → (results fn a.tmps).run P w = .ok (.tuple vs.toArray) w := fun a F => by
  have h2 := h.run F
  have h3 : ¬ vs.length = 1 := by simpa using h1
  unfold results
  rw [hres, List.mapM_toArray]
  simp only [Sem.run_bind, map_eq_pure_bind, Sem.run_pure]
  erw [h2]
  simp [Result.andThen_ok, h3]

theorem getDT {l : List UInt8} {i : Nat} (h : i < l.length) : l[i]? = some (l.getD i 0) := by simp [List.getD, List.getElem?_eq_getElem h]
/-! ### Pointers and nil -/
section
variable {P : Program} {S : World → Prop} {n : Nat} {e : Env} {dst : Option Tmp} {rt : TypeId} {pos : String} {af : Array Edge} {gd : Option (Nat × Bool)}
theorem run_equalIn_ptr {w : World} {d : Nat} {t E : TypeId} {p : Option Addr} (ht : P.underlying t = some (.pointer E)) : (Op.equalIn (d + 1) t (.pointer p) (.pointer none)).run P w = .ok p.isNone w := by
  cases p <;> simp [Op.equalIn, run_underlying ht]
theorem p_eqPN {t t' E : TypeId} {x y : Operand} {p : Option Addr} (hx : ev e x = some (.pointer p)) (hy : ev e y = some (.pointer none)) (ht : P.underlying t = some (.pointer E)) : Pu P S n ⟨dst, .binOp .eql t x y t', rt, pos, af, gd⟩ e (.bool p.isNone) := fun a F w _ => by
  have h2 : (Op.equal t (.pointer p) (.pointer none)).run P w = .ok p.isNone w := run_equalIn_ptr (d := 9999) ht
  cases p <;> simp [execOp, F.ev hx, F.ev hy, binOp, eqGuard, h2]
theorem p_nePN {t t' E : TypeId} {x y : Operand} {p : Option Addr} (hx : ev e x = some (.pointer p)) (hy : ev e y = some (.pointer none)) (ht : P.underlying t = some (.pointer E)) : Pu P S n ⟨dst, .binOp .neq t x y t', rt, pos, af, gd⟩ e (.bool (!p.isNone)) := fun a F w _ => by
  have h2 : (Op.equal t (.pointer p) (.pointer none)).run P w = .ok p.isNone w := run_equalIn_ptr (d := 9999) ht
  cases p <;> simp [execOp, F.ev hx, F.ev hy, binOp, eqGuard, h2]
end

/-! ### Slices of slices of bytes -/
abbrev SD := Option Addr × Nat × Nat
abbrev sdv (q : SD) : Value := .slice q.1 q.2.1 q.2.2
structure SB (w : World) (F : Nat → Prop) (A : Option Addr) (l c : Nat) (bs : List (List UInt8)) : Prop where
  ex : ∃ qs : List SD, Sl w F sdv A l c qs ∧ ∀ i, i < l → Sl w F u8v (qs.getD i (none, 0, 0)).1 (qs.getD i (none, 0, 0)).2.1 (qs.getD i (none, 0, 0)).2.2 (bs.getD i [])
  len : bs.length = l
section
variable {w w' : World} {T F G : Nat → Prop} {A : Option Addr} {l c : Nat} {bs : List (List UInt8)}
theorem SB.cap (h : SB w F A l c bs) : l ≤ c := by obtain ⟨qs, h1, _⟩ := h.ex; exact h1.cap
theorem SB.ch (h : SB w F A l c bs) (k : Ch T w w') (hn : ∀ i, F i → ¬ T i) : SB w' F A l c bs := by
  obtain ⟨⟨qs, h1, h2⟩, hl⟩ := h; exact ⟨⟨qs, h1.ch k hn, fun i hi => (h2 i hi).ch k hn⟩, hl⟩
theorem SB.no (h : SB w F A l c bs) (k : Ch No w w') : SB w' F A l c bs := h.ch k (fun _ _ h => h)
theorem SB.mono (h : SB w F A l c bs) (hF : ∀ k, k < w.heap.size → F k → G k) : SB w G A l c bs := by
  obtain ⟨⟨qs, h1, h2⟩, hl⟩ := h; exact ⟨⟨qs, h1.mono hF, fun i hi => (h2 i hi).mono hF⟩, hl⟩
theorem SB.old (h : SB w F A l c bs) : SB w (fun k => k < w.heap.size) A l c bs := h.mono fun _ h _ => h
theorem SB.chT (h : SB w F A l c bs) (k : Ch T w w') (hn : ∀ i, i < w.heap.size → F i → ¬ T i) : SB w' (fun i => F i ∧ i < w.heap.size) A l c bs := (h.mono (G := fun i => F i ∧ i < w.heap.size) (fun i hi hF => ⟨hF, hi⟩)).ch k (fun i hF => hn i hF.2 hF.1)
theorem SB.opn (h : SB w F A l c bs) (h0 : 0 < l) : ∃ b o, A = some ⟨b, o, none⟩ ∧ F b ∧ ∀ j, j < l → ∃ A' l' c', w.cell? ⟨b, o + j, none⟩ = some (.slice A' l' c') ∧ Sl w F u8v A' l' c' (bs.getD j []) := by
  obtain ⟨⟨qs, h1, h2⟩, hl⟩ := h
  obtain ⟨b, o, hA, hF, hc⟩ := h1.opn (d := (none, 0, 0)) h0
  exact ⟨b, o, hA, hF, fun j hj => ⟨_, _, _, hc j hj, h2 j hj⟩⟩
theorem SB.lit {E : TypeId} {g : Nat} {qs : List SD} (h : Blk w g E (qs.map sdv).toArray) (hF : F g) (hl : bs.length = qs.length) (hs : ∀ i, i < qs.length → Sl w F u8v (qs.getD i (none, 0, 0)).1 (qs.getD i (none, 0, 0)).2.1 (qs.getD i (none, 0, 0)).2.2 (bs.getD i [])) : SB w F (some ⟨g, 0, none⟩) qs.length qs.length bs :=
  ⟨⟨qs, (Sl.lit h rfl rfl).mono (fun k _ hk => hk ▸ hF), hs⟩, hl⟩
theorem SB.nil : SB w F (none : Option Addr) 0 0 [] := ⟨⟨[], .nil, fun i hi => by omega⟩, rfl⟩
end
theorem cat_next {q : List (List UInt8)} {i : Nat} (h : i < q.length) : (q.take i).flatten ++ q.getD i [] = (q.take (i + 1)).flatten := by
  rw [List.take_succ_eq_append_getElem h, List.flatten_append]; simp [List.getD, List.getElem?_eq_getElem h]
/-- A whole array behind a pointer as a slice. -/
theorem p_slW {P : Program} {S : World → Prop} {n : Nat} {e : Env} {dst : Option Tmp} {rt : TypeId} {pos : String} {af : Array Edge} {gd : Option (Nat × Bool)} {t E : TypeId} {x : Operand} {b o N : Nat} (ht : P.underlying t = some (.array (N + 1) E)) (hsz : (P.info? E).map (·.size) = some 1) (hx : ev e x = some (.pointer (some ⟨b, o, none⟩))) :
    Pu P S n ⟨dst, .slice t x none none none, rt, pos, af, gd⟩ e (.slice (some ⟨b, o, none⟩) (N + 1) (N + 1)) := by
  have := p_slA (S := S) (n := n) (e := e) (dst := dst) (rt := rt) (pos := pos) (af := af) (gd := gd) (lo := none) (hi := none) (l := 0) (h := N + 1) ht hsz hx rfl rfl (by omega) (Nat.le_refl _)
  rwa [if_neg (by omega), Nat.zero_mul, Nat.add_zero, Nat.sub_zero] at this
theorem Sl.whole {α : Type} {f : α → Value} {L : List α} {w : World} {g : Nat} {t : TypeId} {N : Nat} (h : Blk w g t (L.map f).toArray) (hN : L.length = N) : Sl w (fun k => k = g) f (some ⟨g, 0, none⟩) N N L := Sl.lit h rfl hN
theorem SB.of {w : World} {E : TypeId} {g : Nat} {qs : List SD} {bs : List (List UInt8)} (h : Blk w g E (qs.map sdv).toArray) (hl : bs.length = qs.length) (hs : ∀ i, i < qs.length → ∃ F, Sl w F u8v (qs.getD i (none, 0, 0)).1 (qs.getD i (none, 0, 0)).2.1 (qs.getD i (none, 0, 0)).2.2 (bs.getD i [])) : SB w (fun k => k < w.heap.size) (some ⟨g, 0, none⟩) qs.length qs.length bs :=
  ⟨⟨qs, (Sl.lit h rfl rfl).old, fun i hi => by obtain ⟨F, h1⟩ := hs i hi; exact h1.old⟩, hl⟩
theorem SB.lit1 {w : World} {E : TypeId} {g : Nat} {A : Option Addr} {l c : Nat} {x : List UInt8} {F : Nat → Prop} (h : Blk w g E #[.slice A l c]) (h1 : Sl w F u8v A l c x) : SB w (fun k => k < w.heap.size) (some ⟨g, 0, none⟩) 1 1 [x] :=
  SB.of (qs := [(A, l, c)]) h rfl (fun i hi => match i, hi with | 0, _ => ⟨_, h1⟩)
theorem SB.lit2 {w : World} {E : TypeId} {g : Nat} {A B : Option Addr} {l c l' c' : Nat} {x y : List UInt8} {F G : Nat → Prop} (h : Blk w g E #[.slice A l c, .slice B l' c']) (h1 : Sl w F u8v A l c x) (h2 : Sl w G u8v B l' c' y) : SB w (fun k => k < w.heap.size) (some ⟨g, 0, none⟩) 2 2 [x, y] :=
  SB.of (qs := [(A, l, c), (B, l', c')]) h rfl (fun i hi => match i, hi with | 0, _ => ⟨_, h1⟩ | 1, _ => ⟨_, h2⟩)
theorem SB.lit3 {w : World} {E : TypeId} {g : Nat} {A B C : Option Addr} {l c l' c' l2 c2 : Nat} {x y z : List UInt8} {F G H : Nat → Prop} (h : Blk w g E #[.slice A l c, .slice B l' c', .slice C l2 c2]) (h1 : Sl w F u8v A l c x) (h2 : Sl w G u8v B l' c' y) (h3 : Sl w H u8v C l2 c2 z) : SB w (fun k => k < w.heap.size) (some ⟨g, 0, none⟩) 3 3 [x, y, z] :=
  SB.of (qs := [(A, l, c), (B, l', c'), (C, l2, c2)]) h rfl (fun i hi => match i, hi with | 0, _ => ⟨_, h1⟩ | 1, _ => ⟨_, h2⟩ | 2, _ => ⟨_, h3⟩)
/-- A number as a byte. -/
def b8i (x : Int) : UInt8 := UInt8.ofNat (x % 256).toNat
theorem wrap_b8i (x : Int) : IntKind.u8.wrap x = ((b8i x).toNat : Int) := by
  have h1 : 0 ≤ x % 256 := Int.emod_nonneg _ (by decide)
  have h2 : x % 256 < 256 := Int.emod_lt_of_pos _ (by decide)
  unfold b8i
  simp only [IntKind.wrap, IntKind.bits, IntKind.signed]
  simp
  omega
theorem cat_le (q : List (List UInt8)) (i : Nat) : (q.take i).flatten.length ≤ q.flatten.length := by
  have h := congrArg List.length (congrArg List.flatten (List.take_append_drop i q))
  rw [List.flatten_append, List.length_append] at h
  omega
end Go.Gx
