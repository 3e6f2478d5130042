/-
  Own text: a frame as a short list of known slots, and rules that step through a function's code with it. Plain lemmas over any program; nothing of one program stands here.
-/
import Derived.WalkKit
import Derived.WalkSpells
import Derived.WalkLawsBesides
import Derived.LoopN
import Derived.Scope
set_option linter.unusedSimpArgs false
set_option linter.unusedVariables false
namespace Go.Gx
open Go.RowKit

/-! ### What is known of a frame -/
abbrev Env := List (Nat × Value)
def look (t : Nat) : Env → Option Value
  | [] => none
  | (k, v) :: r => match Nat.beq k t with
    | true => some v
    | false => look t r
def ev (e : Env) : Operand → Option Value
  | .tmp t => look t e
  | .const v => some v
  | .global g => some (.pointer (some ⟨g, 0, none⟩))
  | .func f => some (.func (.func f) #[] #[])
def evs (e : Env) : List Operand → Option (List Value)
  | [] => some []
  | x :: r => match ev e x, evs e r with
    | some v, some vs => some (v :: vs)
    | _, _ => none
structure Fr (n : Nat) (a : Act) (e : Env) : Prop where
  size : a.tmps.size = n
  defs : a.defers = []
  get : ∀ t v, look t e = some v → a.tmps.getD t undef = v

theorem look_cons {t k : Nat} {v : Value} {r : Env} : look t ((k, v) :: r) = if k = t then some v else look t r := by
  simp only [look]
  by_cases h : k = t
  · subst h; simp
  · have : Nat.beq k t = false := by
      cases hb : Nat.beq k t with
      | false => rfl
      | true => exact absurd (Nat.eq_of_beq_eq_true hb) h
    simp [this, h]

theorem Fr.ev {n : Nat} {a : Act} {e : Env} (F : Fr n a e) {x : Operand} {v : Value} (h : ev e x = some v) : a.eval x = v := by
  cases x with
  | tmp t => exact F.get t v h
  | const u => exact Option.some.inj h
  | global g => exact Option.some.inj h
  | func f => exact Option.some.inj h
theorem Fr.evs {n : Nat} {a : Act} {e : Env} (F : Fr n a e) : ∀ {xs : List Operand} {vs : List Value}, evs e xs = some vs → xs.map a.eval = vs
  | [], vs, h => by simpa [Gx.evs] using h
  | x :: r, vs, h => by
    simp only [Gx.evs] at h
    cases h1 : Gx.ev e x with
    | none => simp [h1] at h
    | some v =>
      cases h2 : Gx.evs e r with
      | none => simp [h1, h2] at h
      | some us =>
        simp only [h1, h2, Option.some.injEq] at h
        subst h
        simp [F.ev h1, F.evs h2]
theorem Fr.put {n : Nat} {a : Act} {e : Env} (F : Fr n a e) {d : Nat} (hd : Nat.blt d n = true) (v : Value) : Fr n (a.put (some d) v) ((d, v) :: e) := by
  have hd' : d < n := by simpa [Nat.blt_eq] using hd
  refine ⟨by simp [Act.put, F.size], F.defs, fun t u h => ?_⟩
  rw [look_cons] at h
  by_cases hk : d = t
  · subst hk
    simp at h
    subst h
    simp [Act.put, F.size, hd']
  · rw [if_neg hk] at h
    have := F.get t u h
    simpa [Act.put, Array.getElem?_setIfInBounds_ne hk] using this
/-- Every slot of e' is known in e. -/
def Sub (e : Env) : Env → Prop
  | [] => True
  | (t, v) :: r => look t e = some v ∧ Sub e r
theorem Sub.look {e : Env} : ∀ {e' : Env}, Sub e e' → ∀ t v, look t e' = some v → look t e = some v
  | [], _, t, v, h => by simp [Gx.look] at h
  | (k, u) :: r, hs, t, v, h => by
    rw [look_cons] at h
    by_cases hk : k = t
    · subst hk; simp at h; subst h; exact hs.1
    · rw [if_neg hk] at h; exact Sub.look hs.2 t v h
theorem Fr.sub {n : Nat} {a : Act} {e e' : Env} (F : Fr n a e) (h : Sub e e') : Fr n a e' := ⟨F.size, F.defs, fun t v hv => F.get t v (h.look t v hv)⟩

/-! ### The standing goals: a list of operations, code, an exit; at every frame of which e is known -/
def WL (P : Program) (ops : Array Oper) (Q : Exit → Act → World → Prop) (n : Nat) (l : List Oper) (e : Env) (w : World) : Prop := ∀ a, Fr n a e → wpList P ops Q l a w
def WC (P : Program) (Q : Exit → Act → World → Prop) (n : Nat) (c : Code) (e : Env) (w : World) : Prop := ∀ a, Fr n a e → c.wp P Q a w
def WQ (Q : Exit → Act → World → Prop) (n : Nat) (x : Exit) (e : Env) (w : World) : Prop := ∀ a, Fr n a e → Q x a w
def NX (P : Program) (Q : Exit → Act → World → Prop) (y : Code) : Act → World → Prop := fun a w => y.wp P Q a w

/-- An operation's effect: behind it K of what is known then, and of the world. -/
def OpE (P : Program) (n : Nat) (o : Oper) (e : Env) (w : World) (Q : Exit → Act → World → Prop) (K : Env → World → Prop) : Prop :=
  ∀ a, Fr n a e → o.wp P a w (fun a' w' => ∃ e', Fr n a' e' ∧ K e' w') Q ∨ (o.asks P a w ∧ LetsOut Q)
/-- An operation that only yields a value, in each world of S. -/
def Pu (P : Program) (S : World → Prop) (n : Nat) (o : Oper) (e : Env) (v : Value) : Prop := ∀ a, Fr n a e → ∀ w, S w → (execOp a.eval o).run P w = .ok (.value v) w

theorem Pu.to {P : Program} {S : World → Prop} {n : Nat} {o : Oper} {e : Env} {v v' : Value} (h : Pu P S n o e v) (hv : v = v') : Pu P S n o e v' := hv ▸ h

section
variable {P : Program} {ops : Array Oper} {Q : Exit → Act → World → Prop} {n : Nat} {e : Env} {w : World} {rest : List Oper} {o : Oper}

/-- A pure operation in a plain region. -/
theorem wl {d : Nat} {v : Value} (hg : o.guard = none) (hd : o.dst = some d) (hlt : Nat.blt d n = true) (hp : Pu P (· = w) n o e v) (k : WL P ops Q n rest ((d, v) :: e) w) : WL P ops Q n (o :: rest) e w := by
  intro a F
  refine wpList_plain hg fun K hK => ?_
  simp only [Oper.wp, hp a F w rfl, Oper.upon, hd]
  exact hK _ _ (k _ (F.put hlt v))
/-- An operation with an effect in a plain region. -/
theorem wle (hg : o.guard = none) (h : OpE P n o e w Q (fun e' w' => WL P ops Q n rest e' w')) : WL P ops Q n (o :: rest) e w := by
  intro a F
  unfold wpList
  rw [if_pos (by simp [Region.wanted, hg])]
  rcases h a F with h | h
  · exact .inl (Oper.wp_mono (fun a' w' ⟨e', F', hk⟩ => hk a' F') h)
  · exact .inr h
theorem wl_nil (h : WQ Q n .normal e w) : WL P ops Q n [] e w := fun a F => h a F
/-! ### Code -/
theorem wc_seq {x y : Code} (h : WC P (Exit.then (NX P Q y) Q) n x e w) : WC P Q n (.seq x y) e w := fun a F => wp_seq (h a F)
theorem wc_region {id : Nat} {l : List Oper} (h : WL P l.toArray Q n l e w) : WC P Q n (.region id l.toArray false) e w := fun a F => wp_region_lit (h a F)
theorem wc_skip (h : WQ Q n .normal e w) : WC P Q n .skip e w := fun a F => wp_skip (h a F)
theorem wc_ret (h : WQ Q n .ret e w) : WC P Q n .ret e w := fun a F => wp_ret (h a F)
theorem wc_exit {i : Nat} (h : WQ Q n (.exit i) e w) : WC P Q n (.exit i) e w := fun a F => wp_exit (h a F)
theorem wc_block {i : Nat} {c : Code} (h : WC P (Exit.inBlock i Q) n c e w) : WC P Q n (.block i c) e w := fun a F => wp_block (h a F)
theorem wc_if {c : Operand} {x y : Code} {b : Bool} (hc : ev e c = some (.bool b)) (ht : b = true → WC P Q n x e w) (hf : b = false → WC P Q n y e w) : WC P Q n (.cond c x y) e w :=
  fun a F => wp_cond_split (F.ev hc) (fun h => ht h a F) (fun h => hf h a F)
theorem wc_yes {c : Operand} {x y : Code} {b : Bool} (hc : ev e c = some (.bool b)) (hb : b = true) (ht : WC P Q n x e w) : WC P Q n (.cond c x y) e w :=
  wc_if hc (fun _ => ht) (fun h => by rw [hb] at h; cases h)
theorem wc_no {c : Operand} {x y : Code} {b : Bool} (hc : ev e c = some (.bool b)) (hb : b = false) (hf : WC P Q n y e w) : WC P Q n (.cond c x y) e w :=
  wc_if hc (fun h => by rw [hb] at h; cases h) (fun _ => hf)
/-! ### Exits -/
theorem x_seq {y : Code} {Q' : Exit → Act → World → Prop} (h : WC P Q n y e w) : WQ (Exit.then (NX P Q y) Q') n .normal e w := h
theorem x_then_exit {K : Act → World → Prop} {i : Nat} (h : WQ Q n (.exit i) e w) : WQ (Exit.then K Q) n (.exit i) e w := h
theorem x_then_ret {K : Act → World → Prop} (h : WQ Q n .ret e w) : WQ (Exit.then K Q) n .ret e w := h
theorem x_in_ret {i : Nat} (h : WQ Q n .ret e w) : WQ (Exit.inBlock i Q) n .ret e w := h
theorem x_in_normal {i : Nat} (h : WQ Q n .normal e w) : WQ (Exit.inBlock i Q) n .normal e w := h
theorem x_in_here {i : Nat} (h : WQ Q n .normal e w) : WQ (Exit.inBlock i Q) n (.exit i) e w := fun a F => by
  simp only [Exit.inBlock, if_true]; exact h a F
/-! ### Loops: I m e w: what holds at a round's head, m more rounds at most -/
def LoopEnd (n : Nat) (I : Nat → Env → World → Prop) (m : Nat) : Act → World → Prop := fun a w => ∃ m' e', m' < m ∧ Fr n a e' ∧ I m' e' w
theorem wc_loop {c : Code} (I : Nat → Env → World → Prop) {m : Nat} {e' : Env} (hs : Sub e e') (h0 : I m e' w) (hr : ∀ m e w, I m e w → WC P (Exit.then (LoopEnd n I m) Q) n c e w) : WC P Q n (.loop c) e w := by
  classical
  intro a F
  let J : Act → World → Prop := fun a w => ∃ m e, Fr n a e ∧ I m e w
  have hex : ∀ a w, J a w → ∃ m, ∃ e, Fr n a e ∧ I m e w := fun a w h => h
  let mu : Act → World → Nat := fun a w => if h : ∃ m, ∃ e, Fr n a e ∧ I m e w then Classical.choose (p := fun m => (∃ e, Fr n a e ∧ I m e w) ∧ ∀ k, k < m → ¬ ∃ e, Fr n a e ∧ I k e w) (by
      obtain ⟨m, hm⟩ := h
      induction m using Nat.strongRecOn with
      | _ m ih =>
        by_cases hk : ∃ k, k < m ∧ ∃ e, Fr n a e ∧ I k e w
        · obtain ⟨k, hkm, hk⟩ := hk; exact ih k hkm hk
        · exact ⟨m, hm, fun k hkm hke => hk ⟨k, hkm, hke⟩⟩) else 0
  have hmu : ∀ a w, J a w → (∃ e, Fr n a e ∧ I (mu a w) e w) ∧ ∀ k, k < mu a w → ¬ ∃ e, Fr n a e ∧ I k e w := fun a w h => by
    have h' := hex a w h
    simp only [mu, dif_pos h']
    exact Classical.choose_spec (p := fun m => (∃ e, Fr n a e ∧ I m e w) ∧ ∀ k, k < m → ¬ ∃ e, Fr n a e ∧ I k e w) _
  refine wp_loop J mu ⟨m, e', F.sub hs, h0⟩ (fun a w hJ => ?_)
  obtain ⟨⟨e1, F1, hI⟩, _⟩ := hmu a w hJ
  refine Code.wp_mono (fun x a' w' hx => ?_) (hr (mu a w) e1 w hI a F1)
  cases x with
  | normal =>
    obtain ⟨m', e2, hlt, F2, hI2⟩ := hx
    have hJ2 : J a' w' := ⟨m', e2, F2, hI2⟩
    refine ⟨hJ2, ?_⟩
    rcases Nat.lt_or_ge (mu a' w') (mu a w) with hl | hl
    · exact hl
    · exact absurd ⟨e2, F2, hI2⟩ ((hmu a' w' hJ2).2 m' (Nat.lt_of_lt_of_le hlt hl))
  | _ => exact hx
/-- A loop of at most m rounds, each walked. -/
def WR (P : Program) (Q : Exit → Act → World → Prop) (n : Nat) (c : Code) (m : Nat) (e : Env) (w : World) : Prop := ∀ a, Fr n a e → Code.rounds P c Q m a w
theorem x_round {I : Nat → Env → World → Prop} {m m' : Nat} {e' : Env} (hs : Sub e e') (hm : m' < m) (h : I m' e' w) : WQ (Exit.then (LoopEnd n I m) Q) n .normal e w := fun _ F => ⟨m', e', hm, F.sub hs, h⟩

/-! ### A function's begin and end -/
theorem enter {f : FuncId} {fn : Func} {c : Code} {args : List Value} {R : Ending → World → Prop} (hf : P.funcs[f]? = some fn) (hb : fn.body = some c) {n : Nat} (hn : fn.ntmps = n)
    (hl : Nat.ble args.length n = true) {e : Env} (he : ∀ a : Act, (∀ i v, args[i]? = some v → a.tmps.getD i undef = v) → ∀ t v, look t e = some v → a.tmps.getD t undef = v)
    (h : WC P (bodyPost P fn R) n c e w) : Calls P f args.toArray w R := by
  refine calls_of_wp hf hb (h _ ⟨?_, rfl, he _ ?_⟩)
  · have : args.length ≤ n := Nat.le_of_ble_eq_true hl
    simp [hn]; omega
  · intro i v hi
    have hlt : i < args.length := by
      rcases Nat.lt_or_ge i args.length with h' | h'
      · exact h'
      · rw [List.getElem?_eq_none h'] at hi; cases hi
    have h2 : args[i]'hlt = v := by rw [List.getElem?_eq_getElem hlt] at hi; exact Option.some.inj hi
    simp [Array.getElem?_append, hlt, h2]
/-- The arguments as slots 0, 1, .. -/
def slots : Nat → List Value → Env
  | _, [] => []
  | k, v :: r => (k, v) :: slots (k + 1) r
theorem slots_get (a : Act) : ∀ (vs : List Value) (k : Nat), (∀ i v, vs[i]? = some v → a.tmps.getD (k + i) undef = v) → ∀ t v, look t (slots k vs) = some v → a.tmps.getD t undef = v
  | [], _, _, t, v, h => by simp [slots, look] at h
  | u :: r, k, hi, t, v, h => by
    simp only [slots] at h
    rw [look_cons] at h
    by_cases hk : k = t
    · subst hk; simp at h; subst h; simpa using hi 0 u rfl
    · rw [if_neg hk] at h
      exact slots_get a r (k + 1) (fun i v hv => by have := hi (i + 1) v (by simpa using hv); rwa [show k + 1 + i = k + (i + 1) from by omega]) t v h
theorem enter' {f : FuncId} {fn : Func} {c : Code} {args : List Value} {R : Ending → World → Prop} (hf : P.funcs[f]? = some fn) (hb : fn.body = some c) {n : Nat} (hn : fn.ntmps = n)
    (hl : Nat.ble args.length n = true) (h : WC P (bodyPost P fn R) n c (slots 0 args) w) : Calls P f args.toArray w R :=
  enter hf hb hn hl (fun a ha t v hv => slots_get a args 0 (fun i v hi => by simpa using ha i v hi) t v hv) h
theorem fin_run {fn : Func} {R : Ending → World → Prop} {v : Value} (hr : ∀ a, Fr n a e → (results fn a.tmps).run P w = .ok v w) (h : R (.returned v) w) : WQ (bodyPost P fn R) n .ret e w :=
  fun a F => ⟨F.defs, v, hr a F, h⟩
theorem fin_run_n {fn : Func} {R : Ending → World → Prop} {v : Value} (hr : ∀ a, Fr n a e → (results fn a.tmps).run P w = .ok v w) (h : R (.returned v) w) : WQ (bodyPost P fn R) n .normal e w :=
  fun a F => ⟨F.defs, v, hr a F, h⟩
theorem res0 {fn : Func} (hres : fn.results = #[]) : ∀ a, Fr n a e → (results fn a.tmps).run P w = .ok (.tuple #[]) w :=
  fun a _ => results_none hres a.tmps P w
theorem res1 {fn : Func} {t : Nat} {v : Value} (hres : fn.results = #[.tmp t]) (hv : look t e = some v) : ∀ a, Fr n a e → (results fn a.tmps).run P w = .ok v w :=
  fun a F => by rw [results_tmp hres, F.get t v hv]
theorem res2 {fn : Func} {t s : Nat} {v u : Value} (hres : fn.results = #[.tmp t, .tmp s]) (hv : look t e = some v) (hu : look s e = some u) : ∀ a, Fr n a e → (results fn a.tmps).run P w = .ok (.tuple #[v, u]) w :=
  fun a F => by rw [results_tmp2 hres, F.get t v hv, F.get s u hu]
end
end Go.Gx
