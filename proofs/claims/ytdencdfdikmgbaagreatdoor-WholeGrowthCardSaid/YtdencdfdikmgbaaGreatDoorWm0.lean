/-
 Own text: general lemmas: a frame as a short list, operations, memory, records, an evaluator and its soundness, plain laws.
-/
import Derived.WalkKit
import Derived.WalkSpells
import Derived.WalkLawsBesides
import Derived.LoopN
import Derived.Scope
import Derived.Maps.AppendAt
import Derived.Lib.AppendStr
import Derived.Deep.MidRow
import Derived.Laws.BytesArg
import Derived.Lib.Strings
import Derived.Lib.SlBytesConst
import Derived.Lib.ConvBytes
import Derived.Orders
import Derived.Stop.BytesEq
import Derived.ChangeKeysEq
import Derived.Lib.AppendZerosOnto
import Derived.RangeFuncNested
import Derived.RangeFuncBound
import Derived.RangeFuncCalls
import Derived.RangeFuncLeaves
import Derived.TacticsIn
import Derived.Shelf.Abstract
import Derived.ProofKit
import Derived.OpenShut
import Derived.ShutString
import Derived.ChangeOld
import Derived.Below
import Derived.SizedLaws
import Derived.SliceStrings
import Derived.Lib.LaidTab
import Derived.Deep.DeepHandedRow
import Derived.MapKept
import Derived.Maps.RangeRun
import Derived.OrdersIn
set_option linter.unusedVariables false
set_option linter.unusedSimpArgs false
namespace Go.Gx
open Go.RowKit
/-! ### What is known of a frame -/
abbrev Env := List (Nat × Value)
def look (t : Nat) : Env → Option Value
 | [] => none
 | (k, v) :: r => match Nat.beq k t with
  | true => some v
  | false => look t r
def ev (e : Env) : Operand → Option Value
 | .tmp t => look t e
 | .const v => some v
 | .global g => some (.pointer (some ⟨g, 0, none⟩))
 | .func f => some (.func (.func f) #[] #[])
def evs (e : Env) : List Operand → Option (List Value)
 | [] => some []
 | x :: r => match ev e x, evs e r with
  | some v, some vs => some (v :: vs)
  | _, _ => none
structure Fr (n : Nat) (a : Act) (e : Env) : Prop where
 size : a.tmps.size = n
 defs : a.defers = []
 get : ∀ t v, look t e = some v → a.tmps.getD t undef = v
theorem ce {t k : Nat} {v : Value} {r : Env} : look t ((k, v) :: r) = if k = t then some v else look t r := by
 simp only [look]
 by_cases h : k = t
 ·subst h; simp
 have : Nat.beq k t = false := by
  cases hb : Nat.beq k t with
  | false => rfl
  | true => exact absurd (Nat.eq_of_beq_eq_true hb) h
 simp [this, h]
theorem Fr.ev {n : Nat} {a : Act} {e : Env} (F : Fr n a e) {x : Operand} {v : Value} (h : ev e x = some v) : a.eval x = v := by
 cases x with
 | tmp t => exact F.get t v h
 | const u => exact Option.some.inj h
 | global g => exact Option.some.inj h
 | func f => exact Option.some.inj h
theorem Fr.evs {n : Nat} {a : Act} {e : Env} (F : Fr n a e) : ∀ {xs : List Operand} {vs : List Value}, evs e xs = some vs → xs.map a.eval = vs
 | [], vs, h => by simpa [Gx.evs] using h
 | x :: r, vs, h => by
  simp only [Gx.evs] at h
  cases h1 : Gx.ev e x with
  | none => simp [h1] at h
  | some v =>
   cases h2 : Gx.evs e r with
   | none => simp [h1, h2] at h
   | some us =>
    simp only [h1, h2, Option.some.injEq] at h
    subst h
    simp [F.ev h1, F.evs h2]
theorem Fr.put {n : Nat} {a : Act} {e : Env} (F : Fr n a e) {d : Nat} (hd : Nat.blt d n = true) (v : Value) : Fr n (a.put (some d) v) ((d, v) :: e) := by
 have hd' : d < n := by simpa [Nat.blt_eq] using hd
 refine ⟨by simp [Act.put, F.size], F.defs, fun t u h => ?_⟩
 rw [ce] at h
 by_cases hk : d = t
 ·subst hk
  simp at h
  subst h
  simp [Act.put, F.size, hd']
 rw [if_neg hk] at h
 have := F.get t u h
 simpa [Act.put, Array.getElem?_setIfInBounds_ne hk] using this
def Sub (e : Env) : Env → Prop
 | [] => True
 | (t, v) :: r => look t e = some v ∧ Sub e r
theorem Sub.look {e : Env} : ∀ {e' : Env}, Sub e e' → ∀ t v, look t e' = some v → look t e = some v
 | [], _, t, v, h => by simp [Gx.look] at h
 | (k, u) :: r, hs, t, v, h => by
  rw [ce] at h
  by_cases hk : k = t
  ·subst hk; simp at h; subst h; exact hs.1
  rw [if_neg hk] at h; exact Sub.look hs.2 t v h
theorem Fr.sub {n : Nat} {a : Act} {e e' : Env} (F : Fr n a e) (h : Sub e e') : Fr n a e' := ⟨F.size, F.defs, fun t v hv => F.get t v (h.look t v hv)⟩
/-! ### The standing goals: a list of operations, code, an exit; at every frame of which e is known -/
def WL (P : Program) (ops : Array Oper) (Q : Exit → Act → World → Prop) (n : Nat) (l : List Oper) (e : Env) (w : World) : Prop := ∀ a, Fr n a e → wpList P ops Q l a w
def WC (P : Program) (Q : Exit → Act → World → Prop) (n : Nat) (c : Code) (e : Env) (w : World) : Prop := ∀ a, Fr n a e → c.wp P Q a w
def WQ (Q : Exit → Act → World → Prop) (n : Nat) (x : Exit) (e : Env) (w : World) : Prop := ∀ a, Fr n a e → Q x a w
def NX (P : Program) (Q : Exit → Act → World → Prop) (y : Code) : Act → World → Prop := fun a w => y.wp P Q a w
def OpE (P : Program) (n : Nat) (o : Oper) (e : Env) (w : World) (Q : Exit → Act → World → Prop) (K : Env → World → Prop) : Prop :=
 ∀ a, Fr n a e → o.wp P a w (fun a' w' => ∃ e', Fr n a' e' ∧ K e' w') Q ∨ (o.asks P a w ∧ LetsOut Q)
def Pu (P : Program) (S : World → Prop) (n : Nat) (o : Oper) (e : Env) (v : Value) : Prop := ∀ a, Fr n a e → ∀ w, S w → (execOp a.eval o).run P w = .ok (.value v) w
theorem Pu.to {P : Program} {S : World → Prop} {n : Nat} {o : Oper} {e : Env} {v v' : Value} (h : Pu P S n o e v) (hv : v = v') : Pu P S n o e v' := hv ▸ h
section
variable {P : Program} {ops : Array Oper} {Q : Exit → Act → World → Prop} {n : Nat} {e : Env} {w : World} {rest : List Oper} {o : Oper}
theorem wl {d : Nat} {v : Value} (hg : o.guard = none) (hd : o.dst = some d) (hlt : Nat.blt d n = true) (hp : Pu P (· = w) n o e v) (k : WL P ops Q n rest ((d, v) :: e) w) : WL P ops Q n (o :: rest) e w := by
 intro a F
 refine wpList_plain hg fun K hK => ?_
 simp only [Oper.wp, hp a F w rfl, Oper.upon, hd]
 exact hK _ _ (k _ (F.put hlt v))
theorem wle (hg : o.guard = none) (h : OpE P n o e w Q (fun e' w' => WL P ops Q n rest e' w')) : WL P ops Q n (o :: rest) e w := by
 intro a F
 unfold wpList
 rw [if_pos (by simp [Region.wanted, hg])]
 rcases h a F with h | h
 ·exact .inl (Oper.wp_mono (fun a' w' ⟨e', F', hk⟩ => hk a' F') h)
 exact .inr h
theorem ac (h : WQ Q n .normal e w) : WL P ops Q n [] e w := fun a F => h a F
/-! ### Code -/
theorem ab {x y : Code} (h : WC P (Exit.then (NX P Q y) Q) n x e w) : WC P Q n (.seq x y) e w := fun a F => wp_seq (h a F)
theorem aa {id : Nat} {l : List Oper} (h : WL P l.toArray Q n l e w) : WC P Q n (.region id l.toArray false) e w := fun a F => wp_region_lit (h a F)
theorem al (h : WQ Q n .normal e w) : WC P Q n .skip e w := fun a F => wp_skip (h a F)
theorem ao (h : WQ Q n .ret e w) : WC P Q n .ret e w := fun a F => wp_ret (h a F)
theorem aI {i : Nat} (h : WQ Q n (.exit i) e w) : WC P Q n (.exit i) e w := fun a F => wp_exit (h a F)
theorem ap {i : Nat} {c : Code} (h : WC P (Exit.inBlock i Q) n c e w) : WC P Q n (.block i c) e w := fun a F => wp_block (h a F)
theorem aA {c : Operand} {x y : Code} {b : Bool} (hc : ev e c = some (.bool b)) (ht : b = true → WC P Q n x e w) (hf : b = false → WC P Q n y e w) : WC P Q n (.cond c x y) e w :=
 fun a F => wp_cond_split (F.ev hc) (fun h => ht h a F) (fun h => hf h a F)
theorem aR {c : Operand} {x y : Code} {b : Bool} (hc : ev e c = some (.bool b)) (hb : b = true) (ht : WC P Q n x e w) : WC P Q n (.cond c x y) e w :=
 aA hc (fun _ => ht) (fun h => by rw [hb] at h; cases h)
theorem bx {c : Operand} {x y : Code} {b : Bool} (hc : ev e c = some (.bool b)) (hb : b = false) (hf : WC P Q n y e w) : WC P Q n (.cond c x y) e w :=
 aA hc (fun h => by rw [hb] at h; cases h) (fun _ => hf)
theorem gP {x y : Code} (J : Env → World → Prop) (h : WC P (Exit.then (fun a w => ∃ e, Fr n a e ∧ J e w) Q) n x e w) (k : ∀ e w, J e w → WC P Q n y e w) : WC P Q n (.seq x y) e w :=
 fun a F => wp_seq (Code.wp_mono (fun x a w hx => by
  cases x with
  | normal => obtain ⟨e', F', hj⟩ := hx; exact k e' w hj a F'
  | _ => exact hx) (h a F))
/-! ### Exits -/
theorem ae {y : Code} {Q' : Exit → Act → World → Prop} (h : WC P Q n y e w) : WQ (Exit.then (NX P Q y) Q') n .normal e w := h
theorem x_meet {J : Env → World → Prop} {e' : Env} (hs : Sub e e') (h : J e' w) : WQ (Exit.then (fun a w => ∃ e, Fr n a e ∧ J e w) Q) n .normal e w := fun _ F => ⟨e', F.sub hs, h⟩
theorem ah {K : Act → World → Prop} {i : Nat} (h : WQ Q n (.exit i) e w) : WQ (Exit.then K Q) n (.exit i) e w := h
theorem ag {K : Act → World → Prop} (h : WQ Q n .ret e w) : WQ (Exit.then K Q) n .ret e w := h
theorem aG {i : Nat} (h : WQ Q n .ret e w) : WQ (Exit.inBlock i Q) n .ret e w := h
theorem ak {i : Nat} (h : WQ Q n .normal e w) : WQ (Exit.inBlock i Q) n .normal e w := h
theorem av {i : Nat} (h : WQ Q n .normal e w) : WQ (Exit.inBlock i Q) n (.exit i) e w := fun a F => by
 simp only [Exit.inBlock, if_true]; exact h a F
/-! ### Loops: I m e w: what holds at a round's head, m more rounds at most -/
def iO (n : Nat) (I : Nat → Env → World → Prop) (m : Nat) : Act → World → Prop := fun a w => ∃ m' e', m' < m ∧ Fr n a e' ∧ I m' e' w
theorem ek {c : Code} (I : Nat → Env → World → Prop) {m : Nat} {e' : Env} (hs : Sub e e') (h0 : I m e' w) (hr : ∀ m e w, I m e w → WC P (Exit.then (iO n I m) Q) n c e w) : WC P Q n (.loop c) e w := by
 classical
 intro a F
 let J : Act → World → Prop := fun a w => ∃ m e, Fr n a e ∧ I m e w
 have hex : ∀ a w, J a w → ∃ m, ∃ e, Fr n a e ∧ I m e w := fun a w h => h
 let mu : Act → World → Nat := fun a w => if h : ∃ m, ∃ e, Fr n a e ∧ I m e w then Classical.choose (p := fun m => (∃ e, Fr n a e ∧ I m e w) ∧ ∀ k, k < m → ¬ ∃ e, Fr n a e ∧ I k e w) (by
   obtain ⟨m, hm⟩ := h
   induction m using Nat.strongRecOn with
   | _ m ih =>
    by_cases hk : ∃ k, k < m ∧ ∃ e, Fr n a e ∧ I k e w
    ·obtain ⟨k, hkm, hk⟩ := hk; exact ih k hkm hk
    exact ⟨m, hm, fun k hkm hke => hk ⟨k, hkm, hke⟩⟩) else 0
 have hmu : ∀ a w, J a w → (∃ e, Fr n a e ∧ I (mu a w) e w) ∧ ∀ k, k < mu a w → ¬ ∃ e, Fr n a e ∧ I k e w := fun a w h => by
  have h' := hex a w h
  simp only [mu, dif_pos h']
  exact Classical.choose_spec (p := fun m => (∃ e, Fr n a e ∧ I m e w) ∧ ∀ k, k < m → ¬ ∃ e, Fr n a e ∧ I k e w) _
 refine wp_loop J mu ⟨m, e', F.sub hs, h0⟩ (fun a w hJ => ?_)
 obtain ⟨⟨e1, F1, hI⟩, _⟩ := hmu a w hJ
 refine Code.wp_mono (fun x a' w' hx => ?_) (hr (mu a w) e1 w hI a F1)
 cases x with
 | normal =>
  obtain ⟨m', e2, hlt, F2, hI2⟩ := hx
  have hJ2 : J a' w' := ⟨m', e2, F2, hI2⟩
  refine ⟨hJ2, ?_⟩
  rcases Nat.lt_or_ge (mu a' w') (mu a w) with hl | hl
  ·exact hl
  exact absurd ⟨e2, F2, hI2⟩ ((hmu a' w' hJ2).2 m' (Nat.lt_of_lt_of_le hlt hl))
 | _ => exact hx
def WR (P : Program) (Q : Exit → Act → World → Prop) (n : Nat) (c : Code) (m : Nat) (e : Env) (w : World) : Prop := ∀ a, Fr n a e → Code.rounds P c Q m a w
theorem jU {c : Code} (m : Nat) (h : WR P Q n c m e w) : WC P Q n (.loop c) e w := fun a F => wp_loop_rounds m (h a F)
theorem dA {c : Code} {m : Nat} (h : WC P (Exit.then (Code.rounds P c Q m) Q) n c e w) : WR P Q n c (m + 1) e w := fun a F => h a F
theorem dS {c : Code} {m : Nat} {Q' : Exit → Act → World → Prop} (h : WR P Q n c m e w) : WQ (Exit.then (Code.rounds P c Q m) Q') n .normal e w := h
theorem bG {I : Nat → Env → World → Prop} {m m' : Nat} {e' : Env} (hs : Sub e e') (hm : m' < m) (h : I m' e' w) : WQ (Exit.then (iO n I m) Q) n .normal e w := fun _ F => ⟨m', e', hm, F.sub hs, h⟩
/-! ### A function's begin and end -/
theorem enter {f : FuncId} {fn : Func} {c : Code} {args : List Value} {R : Ending → World → Prop} (hf : P.funcs[f]? = some fn) (hb : fn.body = some c) {n : Nat} (hn : fn.ntmps = n)
  (hl : Nat.ble args.length n = true) {e : Env} (he : ∀ a : Act, (∀ i v, args[i]? = some v → a.tmps.getD i undef = v) → ∀ t v, look t e = some v → a.tmps.getD t undef = v)
  (h : WC P (bodyPost P fn R) n c e w) : Calls P f args.toArray w R := by
 refine calls_of_wp hf hb (h _ ⟨?_, rfl, he _ ?_⟩)
 ·have : args.length ≤ n := Nat.le_of_ble_eq_true hl
  simp [hn]; omega
 intro i v hi
 have hlt : i < args.length := by
  rcases Nat.lt_or_ge i args.length with h' | h'
  ·exact h'
  rw [List.getElem?_eq_none h'] at hi; cases hi
 have h2 : args[i]'hlt = v := by rw [List.getElem?_eq_getElem hlt] at hi; exact Option.some.inj hi
 simp [Array.getElem?_append, hlt, h2]
def eQ : Nat → List Value → Env
 | _, [] => []
 | k, v :: r => (k, v) :: eQ (k + 1) r
theorem gQ (a : Act) : ∀ (vs : List Value) (k : Nat), (∀ i v, vs[i]? = some v → a.tmps.getD (k + i) undef = v) → ∀ t v, look t (eQ k vs) = some v → a.tmps.getD t undef = v
 | [], _, _, t, v, h => by simp [eQ, look] at h
 | u :: r, k, hi, t, v, h => by
  simp only [eQ] at h
  rw [ce] at h
  by_cases hk : k = t
  ·subst hk; simp at h; subst h; simpa using hi 0 u rfl
  rw [if_neg hk] at h
  exact gQ a r (k + 1) (fun i v hv => by have := hi (i + 1) v (by simpa using hv); rwa [show k + 1 + i = k + (i + 1) from by omega]) t v h
theorem aH {f : FuncId} {fn : Func} {c : Code} {args : List Value} {R : Ending → World → Prop} (hf : P.funcs[f]? = some fn) (hb : fn.body = some c) {n : Nat} (hn : fn.ntmps = n)
  (hl : Nat.ble args.length n = true) (h : WC P (bodyPost P fn R) n c (eQ 0 args) w) : Calls P f args.toArray w R :=
 enter hf hb hn hl (fun a ha t v hv => gQ a args 0 (fun i v hi => by simpa using ha i v hi) t v hv) h
theorem aj {fn : Func} {R : Ending → World → Prop} {v : Value} (hr : ∀ a, Fr n a e → (results fn a.tmps).run P w = .ok v w) (h : R (.returned v) w) : WQ (bodyPost P fn R) n .ret e w :=
 fun a F => ⟨F.defs, v, hr a F, h⟩
theorem dT {fn : Func} {R : Ending → World → Prop} {v : Value} (hr : ∀ a, Fr n a e → (results fn a.tmps).run P w = .ok v w) (h : R (.returned v) w) : WQ (bodyPost P fn R) n .normal e w :=
 fun a F => ⟨F.defs, v, hr a F, h⟩
theorem qo {fn : Func} (hres : fn.results = #[]) : ∀ a, Fr n a e → (results fn a.tmps).run P w = .ok (.tuple #[]) w :=
 fun a _ => results_none hres a.tmps P w
theorem aK {fn : Func} {t : Nat} {v : Value} (hres : fn.results = #[.tmp t]) (hv : look t e = some v) : ∀ a, Fr n a e → (results fn a.tmps).run P w = .ok v w :=
 fun a F => by rw [results_tmp hres, F.get t v hv]
theorem l5 {fn : Func} {t s : Nat} {v u : Value} (hres : fn.results = #[.tmp t, .tmp s]) (hv : look t e = some v) (hu : look s e = some u) : ∀ a, Fr n a e → (results fn a.tmps).run P w = .ok (.tuple #[v, u]) w :=
 fun a F => by rw [results_tmp2 hres, F.get t v hv, F.get s u hu]
theorem qp {fn : Func} {t s r : Nat} {v u x : Value} (hres : fn.results = #[.tmp t, .tmp s, .tmp r]) (hv : look t e = some v) (hu : look s e = some u) (hx : look r e = some x) : ∀ a, Fr n a e → (results fn a.tmps).run P w = .ok (.tuple #[v, u, x]) w :=
 fun a F => by rw [results_tmp3 hres, F.get t v hv, F.get s u hu, F.get r x hx]
end
end Go.Gx
namespace Go.Gx
open Go.RowKit
/-! ### Words for values -/
abbrev i64 (x : Int) : Value := .int .i64 x
abbrev u8v (b : UInt8) : Value := .int .u8 (b.toNat : Int)
abbrev aO (x : BitVec 32) : Value := .int .u32 (x.toNat : Int)
abbrev dM (x : Nat) : Value := .int .u64 (x : Int)
theorem w64 {z : Int} (h : -9223372036854775808 ≤ z ∧ z ≤ 9223372036854775807) : IntKind.i64.wrap z = z := by rw [IntKind.wrap_i64]; omega
theorem eR {z : Int} (h : 0 ≤ z ∧ z ≤ 18446744073709551615) : IntKind.u64.wrap z = z := by
 simp only [IntKind.wrap, IntKind.bits, IntKind.signed]; simp; omega
theorem wu8n (x : Nat) : IntKind.u8.wrap (x : Int) = ((x % 256 : Nat) : Int) := by
 simp only [IntKind.wrap, IntKind.bits, IntKind.signed]; simp
theorem oM (x : Nat) : IntKind.u32.wrap (x : Int) = ((x % 4294967296 : Nat) : Int) := by
 simp only [IntKind.wrap, IntKind.bits, IntKind.signed]; simp
theorem wu32b (x : BitVec 32) : IntKind.u32.wrap (x.toNat : Int) = (x.toNat : Int) := by
 have := x.isLt; rw [oM, Nat.mod_eq_of_lt (by omega)]
section
variable {P : Program} {S : World → Prop} {n : Nat} {e : Env} {dst : Option Tmp} {rt : TypeId} {pos : String} {af : Array Edge} {gd : Option (Nat × Bool)}
theorem aS {x : Operand} {v : Value} (hx : ev e x = some v) : Pu P S n ⟨dst, .move x, rt, pos, af, gd⟩ e v := fun a F w _ => by
 simp [execOp, F.ev hx]
theorem jb {x : Operand} {v : Value} (hx : ev e x = some v) : Pu P S n ⟨dst, .assign x, rt, pos, af, gd⟩ e v := fun a F w _ => by
 simp [execOp, F.ev hx]
theorem am {c x y : Operand} {v : Value} (hc : ev e c = some (.bool true)) (hx : ev e x = some v) : Pu P S n ⟨dst, .pick c x y, rt, pos, af, gd⟩ e v := fun a F w _ => by
 simp [execOp, F.ev hc, F.ev hx, asBool]
theorem ar {c x y : Operand} {v : Value} (hc : ev e c = some (.bool false)) (hy : ev e y = some v) : Pu P S n ⟨dst, .pick c x y, rt, pos, af, gd⟩ e v := fun a F w _ => by
 simp [execOp, F.ev hc, F.ev hy, asBool]
theorem aF {t t' : TypeId} {x y : Operand} {k : IntKind} {X Y Z : Int} (hx : ev e x = some (.int k X)) (hy : ev e y = some (.int k Y)) (hz : k.wrap (X + Y) = Z) : Pu P S n ⟨dst, .binOp .add t x y t', rt, pos, af, gd⟩ e (.int k Z) := fun a F w _ => by
 subst hz; simp [execOp, F.ev hx, F.ev hy, binOp, Op.intArith, eqGuard]
theorem aZ {t t' : TypeId} {x y : Operand} {k : IntKind} {X Y Z : Int} (hx : ev e x = some (.int k X)) (hy : ev e y = some (.int k Y)) (hz : k.wrap (X - Y) = Z) : Pu P S n ⟨dst, .binOp .sub t x y t', rt, pos, af, gd⟩ e (.int k Z) := fun a F w _ => by
 subst hz; simp [execOp, F.ev hx, F.ev hy, binOp, Op.intArith, eqGuard]
theorem cH {t t' : TypeId} {x y : Operand} {k : IntKind} {X Y Z : Int} (hx : ev e x = some (.int k X)) (hy : ev e y = some (.int k Y)) (hz : k.wrap (X * Y) = Z) : Pu P S n ⟨dst, .binOp .mul t x y t', rt, pos, af, gd⟩ e (.int k Z) := fun a F w _ => by
 subst hz; simp [execOp, F.ev hx, F.ev hy, binOp, Op.intArith, eqGuard]
theorem p_quo {t t' : TypeId} {x y : Operand} {k : IntKind} {X Y Z : Int} (hx : ev e x = some (.int k X)) (hy : ev e y = some (.int k Y)) (h0 : Y ≠ 0) (hz : k.wrap (X.tdiv Y) = Z) : Pu P S n ⟨dst, .binOp .quo t x y t', rt, pos, af, gd⟩ e (.int k Z) := fun a F w _ => by
 subst hz; simp [execOp, F.ev hx, F.ev hy, binOp, Op.intDiv, eqGuard, h0]
theorem l6 {t t' : TypeId} {x y : Operand} {k : IntKind} {X Y Z : Int} (hx : ev e x = some (.int k X)) (hy : ev e y = some (.int k Y)) (h0 : Y ≠ 0) (hz : X.tmod Y = Z) : Pu P S n ⟨dst, .binOp .rem t x y t', rt, pos, af, gd⟩ e (.int k Z) := fun a F w _ => by
 subst hz; simp [execOp, F.ev hx, F.ev hy, binOp, Op.intDiv, eqGuard, h0]
theorem aU {t t' : TypeId} {x y : Operand} {k : IntKind} {X Y : Int} (hx : ev e x = some (.int k X)) (hy : ev e y = some (.int k Y)) : Pu P S n ⟨dst, .binOp .lss t x y t', rt, pos, af, gd⟩ e (.bool (decide (X < Y))) := fun a F w _ => by
 simp [execOp, F.ev hx, F.ev hy, binOp, Op.intCmp, eqGuard]
theorem qq {t t' : TypeId} {x y : Operand} {k : IntKind} {X Y : Int} (hx : ev e x = some (.int k X)) (hy : ev e y = some (.int k Y)) : Pu P S n ⟨dst, .binOp .leq t x y t', rt, pos, af, gd⟩ e (.bool (decide (X ≤ Y))) := fun a F w _ => by
 simp [execOp, F.ev hx, F.ev hy, binOp, Op.intCmp, eqGuard]
theorem bM {t t' : TypeId} {x y : Operand} {k : IntKind} {X Y : Int} (hx : ev e x = some (.int k X)) (hy : ev e y = some (.int k Y)) : Pu P S n ⟨dst, .binOp .gtr t x y t', rt, pos, af, gd⟩ e (.bool (decide (Y < X))) := fun a F w _ => by
 simp [execOp, F.ev hx, F.ev hy, binOp, Op.intCmp, eqGuard]
theorem gR {t t' : TypeId} {x y : Operand} {k : IntKind} {X Y : Int} (hx : ev e x = some (.int k X)) (hy : ev e y = some (.int k Y)) : Pu P S n ⟨dst, .binOp .geq t x y t', rt, pos, af, gd⟩ e (.bool (decide (Y ≤ X))) := fun a F w _ => by
 simp [execOp, F.ev hx, F.ev hy, binOp, Op.intCmp, eqGuard]
theorem gS {t t' : TypeId} {x y : Operand} {k : IntKind} {X Y : Int} (hx : ev e x = some (.int k X)) (hy : ev e y = some (.int k Y)) : Pu P S n ⟨dst, .binOp .eql t x y t', rt, pos, af, gd⟩ e (.bool (decide (X = Y))) := fun a F w _ => by
 have : (X == Y) = decide (X = Y) := by simp [BEq.beq]
 simp [execOp, F.ev hx, F.ev hy, binOp, Op.intCmp, eqGuard, this]
theorem jQ {t t' : TypeId} {x y : Operand} {k : IntKind} {X Y : Int} (hx : ev e x = some (.int k X)) (hy : ev e y = some (.int k Y)) : Pu P S n ⟨dst, .binOp .neq t x y t', rt, pos, af, gd⟩ e (.bool (decide (X ≠ Y))) := fun a F w _ => by
 have : (X != Y) = decide (X ≠ Y) := by by_cases h : X = Y <;> simp [h]
 simp [execOp, F.ev hx, F.ev hy, binOp, Op.intCmp, eqGuard, this]
theorem bc {t : TypeId} {x : Operand} {b : Bool} (hx : ev e x = some (.bool b)) : Pu P S n ⟨dst, .unOp .not t x, rt, pos, af, gd⟩ e (.bool (!b)) := fun a F w _ => by
 simp [execOp, F.ev hx, Op.unary]
theorem rO {t t' : TypeId} {x y : Operand} {k k' : IntKind} {X Y Z : Int} (hx : ev e x = some (.int k X)) (hy : ev e y = some (.int k' Y)) (h0 : 0 ≤ Y) (hz : X.fdiv (2 ^ (min Y.toNat k.bits)) = Z) : Pu P S n ⟨dst, .binOp .shr t x y t', rt, pos, af, gd⟩ e (.int k Z) := fun a F w _ => by
 subst hz
 have : ¬ Y < 0 := by omega
 simp [execOp, F.ev hx, F.ev hy, binOp, Op.shift, eqGuard, this]
theorem oN {t t' : TypeId} {x y : Operand} {k k' : IntKind} {X Y Z : Int} (hx : ev e x = some (.int k X)) (hy : ev e y = some (.int k' Y)) (h0 : 0 ≤ Y) (hz : k.wrap (X * 2 ^ (min Y.toNat k.bits)) = Z) : Pu P S n ⟨dst, .binOp .shl t x y t', rt, pos, af, gd⟩ e (.int k Z) := fun a F w _ => by
 subst hz
 have : ¬ Y < 0 := by omega
 simp [execOp, F.ev hx, F.ev hy, binOp, Op.shift, eqGuard, this]
theorem fL {op : BinOp} {t t' : TypeId} {x y : Operand} {k : IntKind} {X Y Z : Int} (hop : op = .and ∨ op = .or ∨ op = .xor ∨ op = .andNot) (hx : ev e x = some (.int k X)) (hy : ev e y = some (.int k Y)) (hz : ∀ w, (Op.intBits op k X Y).run P w = .ok (.int k Z) w) : Pu P S n ⟨dst, .binOp op t x y t', rt, pos, af, gd⟩ e (.int k Z) := fun a F w _ => by
 rcases hop with rfl | rfl | rfl | rfl <;> simp [execOp, F.ev hx, F.ev hy, binOp, eqGuard, hz w]
theorem fI (x : BitVec 32) : BitVec.ofInt 32 (x.toNat : Int) = x := by
 rw [BitVec.ofInt_natCast]
 apply BitVec.eq_of_toNat_eq
 rw [BitVec.toNat_ofNat]; exact Nat.mod_eq_of_lt x.isLt
theorem kK (f : BitVec 32 → BitVec 32 → BitVec 32) (X Y : BitVec 32) : IntKind.u32.wrap ((f (BitVec.ofInt 32 (X.toNat : Int)) (BitVec.ofInt 32 (Y.toNat : Int))).toNat : Int) = ((f X Y).toNat : Int) := by
 rw [fI, fI, wu32b]
theorem bv {t t' : TypeId} {x y : Operand} {X Y : BitVec 32} (hx : ev e x = some (aO X)) (hy : ev e y = some (aO Y)) : Pu P S n ⟨dst, .binOp .xor t x y t', rt, pos, af, gd⟩ e (aO (X ^^^ Y)) :=
 fL (by simp) hx hy (fun w => by simp [Op.intBits]; exact kK (· ^^^ ·) X Y)
theorem dB {t t' : TypeId} {x y : Operand} {X Y : BitVec 32} (hx : ev e x = some (aO X)) (hy : ev e y = some (aO Y)) : Pu P S n ⟨dst, .binOp .and t x y t', rt, pos, af, gd⟩ e (aO (X &&& Y)) :=
 fL (by simp) hx hy (fun w => by simp [Op.intBits]; exact kK (· &&& ·) X Y)
theorem dN {t t' : TypeId} {x y : Operand} {X Y : BitVec 32} (hx : ev e x = some (aO X)) (hy : ev e y = some (aO Y)) : Pu P S n ⟨dst, .binOp .or t x y t', rt, pos, af, gd⟩ e (aO (X ||| Y)) :=
 fL (by simp) hx hy (fun w => by simp [Op.intBits]; exact kK (· ||| ·) X Y)
theorem br {t t' : TypeId} {x y : Operand} {X Y : BitVec 32} (hx : ev e x = some (aO X)) (hy : ev e y = some (aO Y)) : Pu P S n ⟨dst, .binOp .add t x y t', rt, pos, af, gd⟩ e (aO (X + Y)) :=
 aF hx hy (by rw [← Int.natCast_add, oM, BitVec.toNat_add])
theorem p_not32 {t : TypeId} {x : Operand} {X : BitVec 32} (hx : ev e x = some (aO X)) : Pu P S n ⟨dst, .unOp .xor t x, rt, pos, af, gd⟩ e (aO (~~~X)) := fun a F w _ => by
 have h2 : (Op.unary .xor (aO X)).run P w = .ok (aO (~~~X)) w := by
  have h1 : BitVec.ofInt 32 (4294967295 : Int) = BitVec.allOnes 32 := by decide
  have h3 := kK (fun _ y => BitVec.ofInt 32 (4294967295 : Int) ^^^ y) X X
  have h4 : BitVec.ofInt 32 (4294967295 : Int) ^^^ X = ~~~X := by rw [h1]; exact BitVec.allOnes_xor
  rw [h4] at h3
  show Result.ok (Value.int .u32 (IntKind.u32.wrap ((BitVec.ofInt 32 (4294967295 : Int) ^^^ BitVec.ofInt 32 (X.toNat : Int)).toNat : Int))) w = _
  rw [h3]
 simp [execOp, F.ev hx, h2]
theorem cB {t t' : TypeId} {x y : Operand} {k' : IntKind} {X : BitVec 32} {Y : Nat} (hx : ev e x = some (aO X)) (hy : ev e y = some (.int k' (Y : Int))) : Pu P S n ⟨dst, .binOp .shr t x y t', rt, pos, af, gd⟩ e (aO (X >>> Y)) :=
 rO hx hy (by omega) (by
  have hX := X.isLt
  simp only [Int.toNat_natCast, IntKind.bits, BitVec.toNat_ushiftRight]
  rw [show ((2 : Int) ^ (min Y 32)) = ((2 ^ (min Y 32) : Nat) : Int) by push_cast; rfl, Int.fdiv_eq_ediv_of_nonneg _ (Int.natCast_nonneg _), ← Int.natCast_ediv, Nat.shiftRight_eq_div_pow]
  rcases Nat.le_total Y 32 with h | h
  ·rw [Nat.min_eq_left h]
  rw [Nat.min_eq_right h, Nat.div_eq_of_lt (by omega), Nat.div_eq_of_lt (Nat.lt_of_lt_of_le hX (Nat.pow_le_pow_right (by omega) h))])
theorem dC {t t' : TypeId} {x y : Operand} {k' : IntKind} {X : BitVec 32} {Y : Nat} (hx : ev e x = some (aO X)) (hy : ev e y = some (.int k' (Y : Int))) : Pu P S n ⟨dst, .binOp .shl t x y t', rt, pos, af, gd⟩ e (aO (X <<< Y)) :=
 oN hx hy (by omega) (by
  simp only [Int.toNat_natCast, IntKind.bits, BitVec.toNat_shiftLeft]
  rw [show ((2 : Int) ^ (min Y 32)) = ((2 ^ (min Y 32) : Nat) : Int) by push_cast; rfl, ← Int.natCast_mul, oM, Nat.shiftLeft_eq]
  rcases Nat.le_total Y 32 with h | h
  ·rw [Nat.min_eq_left h]
  rw [Nat.min_eq_right h]
  congr 1
  obtain ⟨d, rfl⟩ := Nat.exists_eq_add_of_le h
  rw [Nat.pow_add, ← Nat.mul_assoc, Nat.mul_right_comm, Nat.mul_mod_left, Nat.mul_mod_left])
theorem bB {s t : TypeId} {x : Operand} {k k' : IntKind} {X Z : Int} {d : TypeDesc} (hs : P.underlying s = some d) (ht : P.underlying t = some (.int k')) (hx : ev e x = some (.int k X)) (hz : k'.wrap X = Z) : Pu P S n ⟨dst, .convert s t x, rt, pos, af, gd⟩ e (.int k' Z) := fun a F w _ => by
 subst hz; simp [execOp, F.ev hx, convert, run_underlying hs, run_underlying ht, Conv.intToInt]
theorem aw {t : TypeId} {x : Operand} {E : TypeId} {A : Option Addr} {l c : Nat} (ht : P.underlying t = some (.slice E)) (hx : ev e x = some (.slice A l c)) : Pu P S n ⟨dst, .call { callee := .builtin .len, args := #[x], argTypes := #[t] }, rt, pos, af, gd⟩ e (i64 (l : Int)) := fun a F w _ => by
 simp [execOp, resolve, invoke, builtin, Builtin.len_, F.ev hx, run_underlying ht, goInt]
theorem bQ {t : TypeId} {x : Operand} {s : ByteArray} (ht : P.underlying t = some .string) (hx : ev e x = some (.string s)) : Pu P S n ⟨dst, .call { callee := .builtin .len, args := #[x], argTypes := #[t] }, rt, pos, af, gd⟩ e (i64 (s.size : Int)) := fun a F w _ => by
 simp [execOp, resolve, invoke, builtin, Builtin.len_, F.ev hx, run_underlying ht, goInt]
theorem aP {x : Operand} {i : Nat} {vs : Array Value} {v : Value} (hx : ev e x = some (.tuple vs)) (hv : vs[i]? = some v) : Pu P S n ⟨dst, .extract x i, rt, pos, af, gd⟩ e v := fun a F w _ => by
 simp [execOp, F.ev hx, Instr.extract, hv]
theorem dD {x : Operand} {p : Addr} (hx : ev e x = some (.pointer (some p))) : Pu P S n ⟨dst, .nilCheck x, rt, pos, af, gd⟩ e (.pointer (some p)) := fun a F w _ => by
 simp [execOp, F.ev hx]
theorem p_eqB {t t' : TypeId} {x y : Operand} {b c : Bool} (hx : ev e x = some (.bool b)) (hy : ev e y = some (.bool c)) (ht : P.underlying t = some .bool) : Pu P S n ⟨dst, .binOp .eql t x y t', rt, pos, af, gd⟩ e (.bool (b == c)) := fun a F w _ => by
 have h : ∀ d, (Op.equalIn (d + 1) t (.bool b) (.bool c)).run P w = .ok (b == c) w := fun d => by simp [Op.equalIn, run_underlying ht]
 have h2 : (Op.equal t (.bool b) (.bool c)).run P w = .ok (b == c) w := h 9999
 simp [execOp, F.ev hx, F.ev hy, binOp, eqGuard, h2]
theorem jc {t t' : TypeId} {x y : Operand} {s u : ByteArray} (hx : ev e x = some (.string s)) (hy : ev e y = some (.string u)) : Pu P S n ⟨dst, .binOp .eql t x y t', rt, pos, af, gd⟩ e (.bool (s.toList == u.toList)) := fun a F w _ => by
 simp [execOp, F.ev hx, F.ev hy, binOp, Op.stringOp, eqGuard]
theorem iB {t t' : TypeId} {x y : Operand} {s u : ByteArray} (hx : ev e x = some (.string s)) (hy : ev e y = some (.string u)) : Pu P S n ⟨dst, .binOp .neq t x y t', rt, pos, af, gd⟩ e (.bool (!(s.toList == u.toList))) := fun a F w _ => by
 simp [execOp, F.ev hx, F.ev hy, binOp, Op.stringOp, eqGuard]
theorem p_ltT {t t' : TypeId} {x y : Operand} {s u : ByteArray} (hx : ev e x = some (.string s)) (hy : ev e y = some (.string u)) : Pu P S n ⟨dst, .binOp .lss t x y t', rt, pos, af, gd⟩ e (.bool (Op.bytesLess s.toList u.toList)) := fun a F w _ => by
 simp [execOp, F.ev hx, F.ev hy, binOp, Op.stringOp, eqGuard]
theorem p_and64 {t t' : TypeId} {x y : Operand} {k : IntKind} {X Y Z : Int} (hx : ev e x = some (.int k X)) (hy : ev e y = some (.int k Y)) (hz : k.wrap ((BitVec.ofInt k.bits X &&& BitVec.ofInt k.bits Y).toNat : Int) = Z) : Pu P S n ⟨dst, .binOp .and t x y t', rt, pos, af, gd⟩ e (.int k Z) :=
 fL (by simp) hx hy (fun w => by subst hz; simp [Op.intBits])
theorem jV {t : TypeId} {x i : Operand} {s : ByteArray} {k : IntKind} {I : Int} {b : UInt8} (ht : P.underlying t = some .string) (hx : ev e x = some (.string s)) (hi : ev e i = some (.int k I)) (h0 : 0 ≤ I) (hb : s.data.toList[I.toNat]? = some b) : Pu P S n ⟨dst, .index t x i, rt, pos, af, gd⟩ e (u8v b) := fun a F w _ => by
 have : s[I.toNat]? = some b := by
  have hlt : I.toNat < s.data.toList.length := by
   rcases Nat.lt_or_ge I.toNat s.data.toList.length with h | h
   ·exact h
   rw [List.getElem?_eq_none h] at hb; cases hb
  have hlt' : I.toNat < s.size := by rw [Array.length_toList] at hlt; exact hlt
  rw [getElem?_pos s I.toNat hlt']
  rw [List.getElem?_eq_getElem hlt] at hb
  rw [ByteArray.getElem_eq_getElem_data]
  simp only [Array.getElem_toList] at hb
  exact hb
 have h2 : (Instr.index t (.string s) (.int k I)).run P w = .ok (u8v b) w := by
  simp only [Instr.index, asIntOf, Sem.run_bind, Sem.run_pure, Result.andThen_ok, run_underlying ht, if_pos h0, this]
 simp only [execOp, F.ev hx, F.ev hi, Sem.run_bind, h2, Result.andThen_ok, Sem.run_pure]
end
end Go.Gx
namespace Go.Gx
open Go.RowKit
structure Ch (T : Nat → Prop) (w w' : World) : Prop where
 os : w'.os = w.os
 tape : w'.tape = w.tape
 output : w'.output = w.output
 size : w.heap.size ≤ w'.heap.size
 block : ∀ k, k < w.heap.size → ¬ T k → w'.heap[k]? = w.heap[k]?
abbrev No : Nat → Prop := fun _ => False
theorem Ch.refl (T : Nat → Prop) (w : World) : Ch T w w := ⟨rfl, rfl, rfl, Nat.le_refl _, fun _ _ _ => rfl⟩
theorem Ch.trans {T U V : Nat → Prop} {a b c : World} (h : Ch T a b) (k : Ch U b c) (hT : ∀ i, i < a.heap.size → T i → V i) (hU : ∀ i, i < a.heap.size → U i → V i) : Ch V a c :=
 ⟨k.os.trans h.os, k.tape.trans h.tape, k.output.trans h.output, Nat.le_trans h.size k.size, fun i hi hn =>
  (k.block i (Nat.lt_of_lt_of_le hi h.size) (fun hu => hn (hU i hi hu))).trans (h.block i hi (fun ht => hn (hT i hi ht)))⟩
theorem Ch.tr {T : Nat → Prop} {a b c : World} (h : Ch T a b) (k : Ch No b c) : Ch T a c := h.trans k (fun _ _ h => h) (fun _ _ h => h.elim)
theorem Ch.mono {T U : Nat → Prop} {a b : World} (h : Ch T a b) (hT : ∀ i, i < a.heap.size → T i → U i) : Ch U a b := ⟨h.os, h.tape, h.output, h.size, fun i hi hn => h.block i hi (fun ht => hn (hT i hi ht))⟩
theorem Ch.drew (w : World) : Ch No w w.drew := ⟨rfl, rfl, rfl, Nat.le_refl _, fun _ _ _ => rfl⟩
theorem Ch.alloc (w : World) (o : Obj) : Ch No w (w.alloc o) := ⟨rfl, rfl, rfl, by simp, fun k hk _ => Below.heap_alloc _ _ _ hk⟩
theorem Ch.setCell (w : World) (p : Addr) (u : Value) : Ch (fun k => k = p.block) w (w.setCell p u) := ⟨rfl, rfl, rfl, by simp [World.setCell], fun k _ hn => Below.heap_setCell _ _ _ _ hn⟩
theorem Ch.below {w w' : World} (h : Ch No w w') : Below w.heap.size w w' := ⟨h.os, h.tape, h.output, h.size, fun k hk => h.block k hk (fun h => h)⟩
theorem Ch.of_grown {T : Nat → Prop} {w w' : World} {row : Option Nat} (h : w.grownBy w' row) (hT : ∀ k, row = some k → T k) : Ch T w w' := ⟨h.os, h.tape, h.output, h.size, fun k hk hn => h.block k hk (fun e => hn (hT k e.symm))⟩
theorem Ch.cell {T : Nat → Prop} {w w' : World} (h : Ch T w w') {p : Addr} (hn : ¬ T p.block) {v : Value} (hc : w.cell? p = some v) : w'.cell? p = some v :=
 (World.cell?_of_block (h.block p.block (World.block_lt_of_cell? w p hc) hn)).trans hc
def Blk (w : World) (g : Nat) (t : TypeId) (cs : Array Value) : Prop := w.heap[g]? = some (.cells cs t (0, 0))
section
variable {T F : Nat → Prop} {w w' : World} {g : Nat} {t : TypeId} {cs : Array Value}
theorem Blk.lt (h : Blk w g t cs) : g < w.heap.size := by
 rcases Nat.lt_or_ge g w.heap.size with hlt | hge
 ·exact hlt
 unfold Blk at h; rw [Array.getElem?_eq_none hge] at h; cases h
theorem Blk.ch (h : Blk w g t cs) (c : Ch T w w') (hn : ¬ T g) : Blk w' g t cs := (c.block g h.lt hn).trans h
theorem Blk.cell (h : Blk w g t cs) {i : Nat} {v : Value} (hv : cs[i]? = some v) : w.cell? ⟨g, i, none⟩ = some v := by rw [cell_of_row w g i cs t (0, 0) h]; exact hv
theorem Blk.free (h : Blk w g t cs) (i : Nat) : w.frozen? ⟨g, i, none⟩ = false := by unfold Blk at h; simp [World.frozen?, h]
theorem Blk.new (w : World) (t : TypeId) (cs : Array Value) : Blk (w.alloc (.cells cs t)) w.heap.size t cs := heap_alloc_new w _
theorem Blk.set (h : Blk w g t cs) (i : Nat) (u : Value) : Blk (w.setCell ⟨g, i, none⟩ u) g t (cs.setIfInBounds i u) := by
 unfold Blk at h ⊢
 simp [World.setCell, Array.getElem?_modify, h]
end
def Rd (w : World) (F : Nat → Prop) (A : Option Addr) (xs : List Value) : Prop :=
 xs = [] ∨ ∃ b o, A = some ⟨b, o, none⟩ ∧ F b ∧ ∀ j u, xs[j]? = some u → w.cell? ⟨b, o + j, none⟩ = some u
section
variable {T F G : Nat → Prop} {w w' : World} {A : Option Addr} {xs : List Value}
theorem Rd.nil : Rd w F A [] := .inl rfl
theorem Rd.ch (h : Rd w F A xs) (c : Ch T w w') (hn : ∀ k, F k → ¬ T k) : Rd w' F A xs := by
 rcases h with h | ⟨b, o, h1, h2, h3⟩
 ·exact .inl h
 exact .inr ⟨b, o, h1, h2, fun j u hj => c.cell (hn b h2) (h3 j u hj)⟩
theorem Rd.no (h : Rd w F A xs) (c : Ch No w w') : Rd w' F A xs := h.ch c (fun _ _ h => h)
theorem Rd.mono (h : Rd w F A xs) (hF : ∀ k, k < w.heap.size → F k → G k) : Rd w G A xs := by
 rcases h with h | ⟨b, o, h1, h2, h3⟩
 ·exact .inl h
 rcases xs with _ | ⟨x, r⟩
 ·exact .inl rfl
 exact .inr ⟨b, o, h1, hF b (by have := World.block_lt_of_cell? w _ (h3 0 x rfl); exact this) h2, h3⟩
theorem Rd.at_ (h : Rd w F A xs) {i : Nat} {u : Value} (hi : xs[i]? = some u) : ∃ b o, A = some ⟨b, o, none⟩ ∧ F b ∧ w.cell? ⟨b, o + i, none⟩ = some u := by
 rcases h with h | ⟨b, o, h1, h2, h3⟩
 ·subst h; simp at hi
 exact ⟨b, o, h1, h2, h3 i u hi⟩
def cN (A : Option Addr) (c l sz : Nat) : Option Addr := if c = l then A else A.map (·.add (l * sz))
theorem Rd.cut (h : Rd w F A xs) {c l sz : Nat} (hc : xs.length ≤ c * sz) : Rd w F (cN A c l sz) (xs.drop (l * sz)) := by
 rcases h with h | ⟨b, o, h1, h2, h3⟩
 ·subst h; simp [Rd]
 by_cases hd : xs.drop (l * sz) = []
 ·exact .inl hd
 have hlen : l * sz < xs.length := by
  rcases Nat.lt_or_ge (l * sz) xs.length with h | h
  ·exact h
  exact absurd (List.drop_eq_nil_of_le h) hd
 have hcl : c ≠ l := by rintro rfl; omega
 refine .inr ⟨b, o + l * sz, ?_, h2, fun j u hj => ?_⟩
 ·simp only [cN, if_neg hcl, h1, Option.map_some, Addr.add_mid]
 rw [Nat.add_assoc]; exact h3 _ u (by rw [← hj, List.getElem?_drop])
theorem Rd.take (h : Rd w F A xs) (m : Nat) : Rd w F A (xs.take m) := by
 rcases h with h | ⟨b, o, h1, h2, h3⟩
 ·subst h; simp [Rd]
 exact .inr ⟨b, o, h1, h2, fun j u hj => h3 j u (by
  rw [List.getElem?_take] at hj
  split at hj
  ·exact hj
  cases hj)⟩
theorem Rd.of_blk {g : Nat} {t : TypeId} {cs : Array Value} (h : Blk w g t cs) (hF : F g) (o m : Nat) : Rd w F (some ⟨g, o, none⟩) ((cs.toList.drop o).take m) :=
 .inr ⟨g, o, rfl, hF, fun j u hj => h.cell (by
  rw [List.getElem?_take] at hj
  split at hj
  ·rw [List.getElem?_drop] at hj; simpa using hj
  cases hj)⟩
end
structure Row (w : World) (F : Nat → Prop) (E : TypeId) (sz : Nat) (v : Value) (n : Nat) (xs : List Value) : Prop where
 own : w.ownsRow 0 E sz v n xs
 at_ : ∀ k, v.ownBlock = some k → F k
section
variable {T F G : Nat → Prop} {w w' : World} {E : TypeId} {sz : Nat} {v : Value} {n : Nat} {xs : List Value}
theorem Row.nil (w : World) (F : Nat → Prop) (E : TypeId) (sz : Nat) : Row w F E sz (.slice none 0 0) 0 [] := ⟨World.ownsRow_nil w 0 E sz, fun k h => by simp [Value.ownBlock] at h⟩
theorem Row.mono (h : Row w F E sz v n xs) (hF : ∀ k, k < w.heap.size → F k → G k) : Row w G E sz v n xs := ⟨h.own, fun k hk => hF k (h.own.lt k hk).2 (h.at_ k hk)⟩
theorem Row.ch (h : Row w F E sz v n xs) (c : Ch T w w') (hn : ∀ k, k < w.heap.size → F k → ¬ T k) : Row w' F E sz v n xs := by
 obtain ⟨⟨h1, h2⟩, h3⟩ := h
 refine ⟨⟨h1, ?_⟩, h3⟩
 rcases h2 with h2 | ⟨g, cap, cur, rfl, hb, hg, r⟩
 ·exact .inl h2
 have hlt : g < w.heap.size := Blk.lt (t := E) hg
 exact .inr ⟨g, cap, cur, rfl, hb, (c.block g hlt (hn g hlt (h3 g rfl))).trans hg, r⟩
theorem Row.no (h : Row w F E sz v n xs) (c : Ch No w w') : Row w' F E sz v n xs := h.ch c (fun _ _ _ h => h)
theorem Row.len (h : Row w F E sz v n xs) : xs.length = n * sz := h.own.1
theorem Row.form (h : Row w F E sz v n xs) : ∃ A c, v = .slice A n c ∧ n ≤ c ∧ c ≤ maxLen ∧ Rd w F A xs := by
 obtain ⟨⟨h1, h2⟩, h3⟩ := h
 rcases h2 with ⟨rfl, rfl⟩ | ⟨g, cap, cur, rfl, hb, hg, hnc, hm, hs, ht⟩
 ·have : xs = [] := List.eq_nil_of_length_eq_zero (by simpa using h1)
  exact ⟨none, 0, rfl, Nat.le_refl _, by simp [maxLen], .inl this⟩
 refine ⟨some ⟨g, 0, none⟩, cap, rfl, hnc, hm, ?_⟩
 have := Rd.of_blk (w := w) (F := F) (g := g) (t := E) (cs := cur) hg (h3 g rfl) 0 (n * sz)
 rwa [List.drop_zero, ht] at this
theorem Row.of_blk {g cap : Nat} {cs : Array Value} (h : Blk w g E cs) (hF : F g) (hnc : n ≤ cap) (hm : cap ≤ maxLen) (hs : cs.size = cap * sz) : Row w F E sz (.slice (some ⟨g, 0, none⟩) n cap) n (cs.toList.take (n * sz)) :=
 ⟨⟨by rw [List.length_take, Array.length_toList, hs]; exact Nat.min_eq_left (Nat.mul_le_mul_right _ hnc), .inr ⟨g, cap, cs, rfl, Nat.zero_le _, h, hnc, hm, hs, rfl⟩⟩, fun k hk => by
  simp [Value.ownBlock] at hk; subst hk; exact hF⟩
end
/-! ### Operations on memory -/
theorem ld {w : World} {p : Addr} {v : Value} (h : w.cell? p = some v) : ∀ w', w' = w → w'.cell? p = some v := fun _ e => e ▸ h
def cj : TypeDesc → Bool
 | .struct _ => false
 | .array _ _ => false
 | _ => true
section
variable {P : Program} {Q : Exit → Act → World → Prop} {S : World → Prop} {n : Nat} {e : Env} {w : World} {dst : Option Tmp} {rt : TypeId} {pos : String} {af : Array Edge} {gd : Option (Nat × Bool)}
theorem dU {t : TypeId} {d : TypeDesc} (hd : P.underlying t = some d) (hf : cj d = true) {p : Addr} {v : Value} (hc : w.cell? p = some v) : (loadVar t p).run P w = .ok v w := by
 have ha : (isAgg t).run P w = .ok false w := by
  cases d <;> simp [cj] at hf <;> simp [isAgg, run_underlying hd]
 simp [loadVar, ha, load, Sem.run, hc]
theorem aE {t : TypeId} {x : Operand} {d : TypeDesc} {p : Addr} {v : Value} (hd : P.underlying t = some d) (hf : cj d = true) (hx : ev e x = some (.pointer (some p))) (hc : ∀ w, S w → w.cell? p = some v) : Pu P S n ⟨dst, .load t x, rt, pos, af, gd⟩ e v := fun a F w hw => by
 simp [execOp, F.ev hx, Instr.loadAt, Instr.sureAddr, dU hd hf (hc w hw)]
theorem bE {t : TypeId} {x : Operand} {d : TypeDesc} {b o : Nat} {cs : List Value} (hd : P.underlying t = some d) (hf : cj d = false) (hi : (P.info? t).map (·.size) = some cs.length) (hx : ev e x = some (.pointer (some ⟨b, o, none⟩))) (hc : ∀ w, S w → w.rangeAt b o cs) : Pu P S n ⟨dst, .load t x, rt, pos, af, gd⟩ e (.agg cs.toArray) := fun a F w hw => by
 have h := run_loadAt_mid (P := P) w b o t cs d (hc w hw) hd (by cases d <;> simp [cj] at hf <;> simp) hi
 simp [execOp, F.ev hx, h]
theorem tI {g o : Nat} {t : TypeId} {cs : Array Value} (h : Blk w g t cs) {l : List Value} (hl : (cs.toList.drop o).take l.length = l) : w.rangeAt g o l := fun j v hv => h.cell (by
 have : ((cs.toList.drop o).take l.length)[j]? = some v := by rw [hl]; exact hv
 rw [List.getElem?_take] at this
 split at this
 ·rw [List.getElem?_drop] at this; simpa using this
 cases this)
theorem du {t E : TypeId} {x i : Operand} {A : Option Addr} {b o l c sz j : Nat} {k : IntKind} {I : Int} (ht : P.underlying t = some (.slice E)) (hsz : (P.info? E).map (·.size) = some sz) (hx : ev e x = some (.slice A l c)) (hA : A = some ⟨b, o, none⟩)
  (hi : ev e i = some (.int k I)) (h0 : 0 ≤ I) (h1 : I < l) (hj : I.toNat * sz = j) : Pu P S n ⟨dst, .indexAddr t x i, rt, pos, af, gd⟩ e (.pointer (some ⟨b, o + j, none⟩)) := fun a F w _ => by
 subst hA hj
 obtain ⟨inf, hinf, rfl⟩ := Option.map_eq_some_iff.1 hsz
 have h : (Instr.indexAt t (.slice (some ⟨b, o, none⟩) l c) (.int k I)).run P w = .ok (.pointer (some ⟨b, o + I.toNat * inf.size, none⟩)) w := by
  simp [Instr.indexAt, asIntOf, run_underlying ht, sizeOf, typeInfo, hinf, h0, h1, Addr.add_mid]
 simp [execOp, F.ev hx, F.ev hi, h]
theorem iC {t E : TypeId} {x i : Operand} {b o l sz j : Nat} {k : IntKind} {I : Int} (ht : P.underlying t = some (.array l E)) (hsz : (P.info? E).map (·.size) = some sz) (hx : ev e x = some (.pointer (some ⟨b, o, none⟩)))
  (hi : ev e i = some (.int k I)) (h0 : 0 ≤ I) (h1 : I < l) (hj : I.toNat * sz = j) : Pu P S n ⟨dst, .indexAddr t x i, rt, pos, af, gd⟩ e (.pointer (some ⟨b, o + j, none⟩)) := fun a F w _ => by
 subst hj
 obtain ⟨inf, hinf, rfl⟩ := Option.map_eq_some_iff.1 hsz
 have h : (Instr.indexAt t (.pointer (some ⟨b, o, none⟩)) (.int k I)).run P w = .ok (.pointer (some ⟨b, o + I.toNat * inf.size, none⟩)) w := by
  simp [Instr.indexAt, Instr.sureAddr, asIntOf, run_underlying ht, sizeOf, typeInfo, hinf, h0, h1, Addr.add_mid]
 simp [execOp, F.ev hx, F.ev hi, h]
theorem dE {s : TypeId} {x : Operand} {i b o j : Nat} {fs : Array Field} {f : Field} (hs : P.underlying s = some (.struct fs)) (hf : fs[i]? = some f) (hz : ∃ m, (P.info? f.type).map (·.size) = some (m + 1)) (hx : ev e x = some (.pointer (some ⟨b, o, none⟩))) (hj : f.offset = j) : Pu P S n ⟨dst, .fieldAddr s x i, rt, pos, af, gd⟩ e (.pointer (some ⟨b, o + j, none⟩)) := fun a F w _ => by
 subst hj
 obtain ⟨m, hm⟩ := hz
 obtain ⟨inf, hinf, hsz⟩ := Option.map_eq_some_iff.1 hm
 have h : (Instr.fieldAt s (.pointer (some ⟨b, o, none⟩)) i).run P w = .ok (.pointer (some ⟨b, o + f.offset, none⟩)) w := by
  simp [Instr.fieldAt, Instr.sureAddr, run_underlying hs, hf, fieldPlace, sizeOf, typeInfo, hinf, hsz, Addr.add_mid]
 simp [execOp, F.ev hx, h]
end
end Go.Gx
namespace Go.Gx
open Go.RowKit
def str (bs : List UInt8) : ByteArray := ⟨bs.toArray⟩
theorem dh (bs : List UInt8) : (str bs).data.toList = bs := by simp [str]
theorem nF (bs : List UInt8) : (str bs).toList = bs := by simp [str]
theorem tJ (bs : List UInt8) : (str bs).size = bs.length := by simp [str, ByteArray.size]
theorem rP (s : ByteArray) : str s.data.toList = s := by simp [str]
theorem oO {a b : List UInt8} (h : str a = str b) : a = b := by have := congrArg (fun s => s.data.toList) h; simpa [str] using this
section
variable {P : Program} {Q : Exit → Act → World → Prop} {S : World → Prop} {n : Nat} {e : Env} {w : World} {rt : TypeId} {pos : String} {af : Array Edge} {gd : Option (Nat × Bool)} {d : Nat} {dst : Option Tmp} {K : Env → World → Prop}
theorem bl {o : Oper} {v : Value} {w' : World} (hd : o.dst = some d) (hlt : Nat.blt d n = true) (hr : ∀ a, Fr n a e → (execOp a.eval o).run P w = .ok (.value v) w') (k : K ((d, v) :: e) w') : OpE P n o e w Q K := fun a F => .inl (by
 simp only [Oper.wp, hr a F, Oper.upon, hd]
 exact ⟨_, F.put hlt v, k⟩)
theorem dV {o : Oper} {w' : World} (hd : o.dst = none) (hr : ∀ a, Fr n a e → (execOp a.eval o).run P w = .ok .skip w') (k : K e w') : OpE P n o e w Q K := fun a F => .inl (by
 simp only [Oper.wp, hr a F, Oper.upon, hd]
 exact ⟨_, F, k⟩)
theorem bz {t : TypeId} {z : Value} {cs : Array Value} (hlt : Nat.blt d n = true) (hz : (P.info? t).map (·.zero) = some (some z)) (hcs : z.cells = cs)
  (k : ∀ w' g, g = w.heap.size → Blk w' g t cs → Ch No w w' → w'.heap.size = g + 1 → K ((d, .pointer (some ⟨g, 0, none⟩)) :: e) w') : OpE P n ⟨some d, .alloc t, rt, pos, af, gd⟩ e w Q K := by
 subst hcs
 obtain ⟨inf, hinf, hzz⟩ := Option.map_eq_some_iff.1 hz
 refine bl rfl hlt (w' := w.alloc (.cells z.cells t)) (v := .pointer (some ⟨w.heap.size, 0, none⟩)) (fun a F => ?_) (k _ _ rfl (Blk.new w t _) (Ch.alloc w _) (by simp))
 have h : (Instr.alloc t true (.tuple #[])).run P w = .ok (.pointer (some ⟨w.heap.size, 0, none⟩)) (w.alloc (.cells z.cells t)) := by
  simp [Instr.alloc, zeroValue, typeInfo, hinf, hzz, newVar, newRow, newObj, Sem.run]
 simp [execOp, h]
theorem bg {t : TypeId} {x : Operand} {v : Value} {cs : Array Value} (hlt : Nat.blt d n = true) (hx : ev e x = some v) (hcs : v.cells = cs)
  (k : ∀ w' g, g = w.heap.size → Blk w' g t cs → Ch No w w' → w'.heap.size = g + 1 → K ((d, .pointer (some ⟨g, 0, none⟩)) :: e) w') : OpE P n ⟨some d, .box t x, rt, pos, af, gd⟩ e w Q K := by
 subst hcs
 refine bl rfl hlt (w' := w.alloc (.cells v.cells t)) (v := .pointer (some ⟨w.heap.size, 0, none⟩)) (fun a F => ?_) (k _ _ rfl (Blk.new w t _) (Ch.alloc w _) (by simp))
 have h : (Instr.box t v).run P w = .ok (.pointer (some ⟨w.heap.size, 0, none⟩)) (w.alloc (.cells v.cells t)) := by
  simp [Instr.box, newVar, newRow, newObj, Sem.run]
 simp [execOp, F.ev hx, h]
theorem iD {t E : TypeId} {l : Nat} {parts : Array (Nat × Operand)} {vs : List Value} {cs : Array Value} (hlt : Nat.blt d n = true) (hvs : evs e (parts.toList.map (·.2)) = some vs)
  (hr : ∀ w, (Instr.buildSlice t l ((parts.toList.map (·.1)).zip vs).toArray).run P w = .ok (.slice (some ⟨w.heap.size, 0, none⟩) l l) (w.alloc (.cells cs E)))
  (k : ∀ w' g, g = w.heap.size → Blk w' g E cs → Ch No w w' → w'.heap.size = g + 1 → K ((d, .slice (some ⟨g, 0, none⟩) l l) :: e) w') : OpE P n ⟨some d, .buildSlice t l parts, rt, pos, af, gd⟩ e w Q K := by
 refine bl rfl hlt (fun a F => ?_) (k _ _ rfl (Blk.new w E _) (Ch.alloc w _) (by simp))
 have h2 : (parts.map fun (i, x) => (i, a.eval x)) = ((parts.toList.map (·.1)).zip vs).toArray := by
  rw [← F.evs hvs]
  apply Array.toList_inj.1
  simp only [Array.toList_map, List.map_map]
  generalize parts.toList = ps
  induction ps with
  | nil => rfl
  | cons p r ih => simp [ih]
 simp [execOp, h2, hr w]
theorem aT {t E : TypeId} {l : Nat} {parts : Array (Nat × Operand)} {vs : List Value} (hlt : Nat.blt d n = true) (hvs : evs e (parts.toList.map (·.2)) = some vs)
  (hr : ∀ w, (Instr.buildSlice t l ((parts.toList.map (·.1)).zip vs).toArray).run P w = .ok (.slice (some ⟨w.heap.size, 0, none⟩) l l) (w.alloc (.cells vs.toArray E)))
  (k : ∀ w' g, g = w.heap.size → Blk w' g E vs.toArray → Ch No w w' → w'.heap.size = g + 1 → K ((d, .slice (some ⟨g, 0, none⟩) l l) :: e) w') : OpE P n ⟨some d, .buildSlice t l parts, rt, pos, af, gd⟩ e w Q K := iD hlt hvs hr k
theorem rQ {t E : TypeId} {l : Nat} {parts : Array (Nat × Operand)} {vs : List Value} (hlt : Nat.blt d n = true) (hvs : evs e (parts.toList.map (·.2)) = some vs)
  (hr : ∀ w, (Instr.buildSlice t l ((parts.toList.map (·.1)).zip vs).toArray).run P w = .ok (.slice (some ⟨w.heap.size, 0, none⟩) l l) (w.alloc (.cells (vs.flatMap fun v => v.cells.toList).toArray E)))
  (k : ∀ w' g, g = w.heap.size → Blk w' g E (vs.flatMap fun v => v.cells.toList).toArray → Ch No w w' → w'.heap.size = g + 1 → K ((d, .slice (some ⟨g, 0, none⟩) l l) :: e) w') : OpE P n ⟨some d, .buildSlice t l parts, rt, pos, af, gd⟩ e w Q K := iD hlt hvs hr k
theorem kL {t : TypeId} {parts : Array (Nat × Operand)} {vs : List Value} (hvs : evs e (parts.toList.map (·.2)) = some vs) (hr : ∀ w, (Instr.build t ((parts.toList.map (·.1)).zip vs).toArray).run P w = .ok (.agg vs.toArray) w) : Pu P S n ⟨dst, .build t parts, rt, pos, af, gd⟩ e (.agg vs.toArray) := fun a F w _ => by
 have h2 : (parts.map fun (i, x) => (i, a.eval x)) = ((parts.toList.map (·.1)).zip vs).toArray := by
  rw [← F.evs hvs]
  apply Array.toList_inj.1
  simp only [Array.toList_map, List.map_map]
  generalize parts.toList = ps
  induction ps with
  | nil => rfl
  | cons p r ih => simp [ih]
 simp [execOp, h2, hr w]
theorem bI {t : TypeId} {parts : Array (Nat × Operand)} {vs : List Value} {cs : Array Value} (hvs : evs e (parts.toList.map (·.2)) = some vs) (hr : ∀ w, (Instr.build t ((parts.toList.map (·.1)).zip vs).toArray).run P w = .ok (.agg cs) w) : Pu P S n ⟨dst, .build t parts, rt, pos, af, gd⟩ e (.agg cs) := fun a F w _ => by
 have h2 : (parts.map fun (i, x) => (i, a.eval x)) = ((parts.toList.map (·.1)).zip vs).toArray := by
  rw [← F.evs hvs]
  apply Array.toList_inj.1
  simp only [Array.toList_map, List.map_map]
  generalize parts.toList = ps
  induction ps with
  | nil => rfl
  | cons p r ih => simp [ih]
 simp [execOp, h2, hr w]
theorem cO {vs : List Value} (h : vs.all Value.oneCell' = true) : ∀ v ∈ vs, v.oneCell' = true := fun v hv => List.all_eq_true.1 h v hv
theorem gT {t : TypeId} {g o : Nat} {E : TypeId} {cs : Array Value} {v : Value} (hi : (P.info? t).map (·.size) = some 1) (h1 : v.oneCell' = true) (hb : Blk w g E cs) (ho : o < cs.size) : (storeVar t ⟨g, o, none⟩ v).run P w = .ok () (w.setCell ⟨g, o, none⟩ v) := by
 obtain ⟨inf, hinf, hsz⟩ := Option.map_eq_some_iff.1 hi
 have hc : v.cells = #[v] := by cases v <;> simp [Value.oneCell'] at h1 <;> rfl
 have hcell : w.cell? ⟨g, o, none⟩ = some cs[o] := hb.cell (by simp [ho])
 simp [storeVar, sizeOf, typeInfo, hinf, hsz, hc, storeCells, Addr.add, run_store P w _ v _ h1, hcell, hb.free o]
theorem qr {t : TypeId} {x y : Operand} {g o : Nat} {E : TypeId} {cs : Array Value} {v : Value} (hi : (P.info? t).map (·.size) = some 1) (h1 : v.oneCell' = true) (hx : ev e x = some (.pointer (some ⟨g, o, none⟩))) (hy : ev e y = some v) (hb : Blk w g E cs) (ho : o < cs.size)
  (k : ∀ w', Blk w' g E (cs.setIfInBounds o v) → Ch (fun k => k = g) w w' → w'.heap.size = w.heap.size → K e w') : OpE P n ⟨none, .store t x y, rt, pos, af, gd⟩ e w Q K := by
 refine dV rfl (w' := w.setCell ⟨g, o, none⟩ v) (fun a F => ?_) (k _ (hb.set o v) (Ch.setCell w ⟨g, o, none⟩ v) (by simp [World.setCell]))
 simp [execOp, F.ev hx, F.ev hy, Instr.storeAt, Instr.sureAddr, gT hi h1 hb ho]
theorem dm {g : Nat} {E : TypeId} : ∀ (vs : List Value) (o : Nat) (w : World) (cs : Array Value), Blk w g E cs → o + vs.length ≤ cs.size → ∃ cs', Blk (w.setCells g o vs) g E cs' ∧ cs'.toList = cs.toList.take o ++ vs ++ cs.toList.drop (o + vs.length) ∧ Ch (fun k => k = g) w (w.setCells g o vs) ∧ (w.setCells g o vs).heap.size = w.heap.size
 | [], o, w, cs, hb, h => ⟨cs, hb, by simp, Ch.refl _ _, rfl⟩
 | v :: r, o, w, cs, hb, h => by
  have hb1 := hb.set o v
  obtain ⟨cs', h1, h2, h3, h4⟩ := dm r (o + 1) (w.setCell ⟨g, o, none⟩ v) _ hb1 (by simp at h ⊢; omega)
  refine ⟨cs', h1, ?_, (Ch.setCell w ⟨g, o, none⟩ v).trans h3 (fun _ _ h => h) (fun _ _ h => h), by rw [show (w.setCells g o (v :: r)) = ((w.setCell ⟨g, o, none⟩ v).setCells g (o + 1) r) from rfl, h4]; simp [World.setCell]⟩
  rw [h2]
  have ho : o < cs.toList.length := by simp at h ⊢; omega
  rw [Array.toList_setIfInBounds]
  have e1 : (cs.toList.set o v).take (o + 1) = cs.toList.take o ++ [v] := by
   rw [List.take_succ_eq_append_getElem (by simpa using ho)]
   simp [List.take_set_of_le]
  have e2 : (cs.toList.set o v).drop (o + 1 + r.length) = cs.toList.drop (o + (r.length + 1)) := by
   rw [List.drop_set_of_lt (by omega)]; congr 1; omega
  rw [e1, e2]; simp
theorem e_stA {t : TypeId} {x y : Operand} {g o : Nat} {E : TypeId} {cs : Array Value} {vs : List Value} (hi : (P.info? t).map (·.size) = some vs.length) (h1 : ∀ v ∈ vs, v.oneCell' = true) (hx : ev e x = some (.pointer (some ⟨g, o, none⟩))) (hy : ev e y = some (.agg vs.toArray)) (hb : Blk w g E cs) (ho : o + vs.length ≤ cs.size)
  (k : ∀ w' cs', Blk w' g E cs' → cs'.toList = cs.toList.take o ++ vs ++ cs.toList.drop (o + vs.length) → Ch (fun k => k = g) w w' → w'.heap.size = w.heap.size → K e w') : OpE P n ⟨none, .store t x y, rt, pos, af, gd⟩ e w Q K := by
 obtain ⟨cs', h2, h3, h4, h5⟩ := dm vs o w cs hb ho
 refine dV rfl (w' := w.setCells g o vs) (fun a F => ?_) (k _ cs' h2 h3 h4 h5)
 have ht : w.there g o vs.toArray.size := fun j hj => by
  have hj' : o + j < cs.size := by simp at hj; omega
  refine ⟨?_, hb.free _⟩
  rw [hb.cell (i := o + j) (v := cs[o + j]) (by simp [hj'])]; rfl
 have := run_storeAt_mid (P := P) w g o t vs.toArray ht (by simpa using hi) (all_oneCell_toArray h1)
 simp at this
 simp [execOp, F.ev hx, F.ev hy, this]
structure ElT (P : Program) (t E : TypeId) (sz by_ : Nat) : Prop where
 under : P.underlying t = some (.slice E)
 info : ∃ i z, P.info? E = some i ∧ i.zero = some z ∧ i.size = sz ∧ i.bytes = by_ ∧ z.cells.size = sz
 pos : 0 < sz
theorem rR {t E : TypeId} {s x : Operand} {sz by_ : Nat} {v : Value} {l m c : Nat} {xs news : List Value} {F Fx : Nat → Prop} {A : Option Addr} (hlt : Nat.blt d n = true) (ht : ElT P t E sz by_) (hs : ev e s = some v) (hx : ev e x = some (.slice A m c)) (R : Row w F E sz v l xs) (X : Rd w Fx A news) (hl : news.length = m * sz) (h1 : ∀ u ∈ news, u.oneCell' = true)
  (hb : (l + m) * by_ ≤ 140737488355328) (h63 : l + m ≤ maxLen) (hF : ∀ k, w.heap.size ≤ k → F k)
  (k : ∀ w' v', Row w' F E sz v' (l + m) (xs ++ news) → Ch F w w' → K ((d, v') :: e) w') : OpE P n ⟨some d, .call { callee := .builtin .append, args := #[s, x], argTypes := #[t, t] }, rt, pos, af, gd⟩ e w Q K := by
 obtain ⟨i, z, hi, hz, hsize, hby, hzs⟩ := ht.info
 have hrun : ∃ v' w', (Builtin.append_ #[t, t] rt #[v, .slice A m c]).run P w = .ok v' w' ∧ Row w' F E sz v' (l + m) (xs ++ news) ∧ Ch F w w' := by
  by_cases hm : m = 0
  ·subst hm
   have hn : news = [] := List.eq_nil_of_length_eq_zero (by simpa using hl)
   subst hn
   refine ⟨v, w, ?_, by simpa using R, Ch.refl _ _⟩
   rcases R.own.2 with ⟨rfl, rfl⟩ | ⟨g, cap, cur, rfl, _, _, hnc, _⟩
   ·cases A <;> simp [Builtin.append_, run_underlying ht.under, sizeOf, typeInfo, hi, Builtin.lenOf, Builtin.firstCells, loadCells, loadCellsFrom]
   cases A <;> simp [Builtin.append_, run_underlying ht.under, sizeOf, typeInfo, hi, Builtin.lenOf, Builtin.firstCells, hnc, storeCells, loadCells, loadCellsFrom]
  have hne : news ≠ [] := by
   intro h; subst h
   have : 0 < m * sz := Nat.mul_pos (by omega) ht.pos
   simp only [List.length_nil] at hl; omega
  rcases X with h | ⟨b, o, rfl, _, hc⟩
  ·exact absurd h hne
  obtain ⟨v', w', hr, h2, h3, _, h5⟩ := run_append_own_at (P := P) w 0 t rt E i z sz by_ ht.under hi hz hsize hby hzs ht.pos v l xs R.own ⟨b, o, none⟩ m c news hl (fun j u hj => by rw [Addr.add_mid]; exact hc j u hj) h1 h63 hb (Nat.zero_le _)
  refine ⟨v', w', hr, ⟨h2, fun k hk => ?_⟩, Ch.of_grown h3 (fun k hk => R.at_ k hk)⟩
  rcases h5 with h5 | h5
  ·exact R.at_ k (h5 ▸ hk)
  rw [h5] at hk; cases hk; exact hF _ (Nat.le_refl _)
 obtain ⟨v', w', hr, h2, h3⟩ := hrun
 refine bl rfl hlt (fun a Fr => ?_) (k w' v' h2 h3)
 simp [execOp, resolve, invoke, builtin, Fr.ev hs, Fr.ev hx, hr]
theorem rS {t u E : TypeId} {s x : Operand} {v : Value} {l : Nat} {xs : List Value} {F : Nat → Prop} {q : ByteArray} (hlt : Nat.blt d n = true) (ht : ElT P t E 1 1) (hz : (P.info? E).map (·.zero) = some (some (.int .u8 0))) (hu : P.underlying u = some .string) (hs : ev e s = some v) (hx : ev e x = some (.string q)) (R : Row w F E 1 v l xs)
  (hb : l + q.size ≤ 140737488355328) (hF : ∀ k, w.heap.size ≤ k → F k)
  (k : ∀ w' v', Row w' F E 1 v' (l + q.size) (xs ++ q.data.toList.map u8v) → Ch F w w' → K ((d, v') :: e) w') : OpE P n ⟨some d, .call { callee := .builtin .append, args := #[s, x], argTypes := #[t, u] }, rt, pos, af, gd⟩ e w Q K := by
 obtain ⟨i, z, hi, hz', hsize, hby, hzs⟩ := ht.info
 have hz2 : i.zero = some (.int .u8 0) := by rw [hi] at hz; simpa using hz
 obtain ⟨v', w', hr, h2, h3, h4⟩ := Lib.run_append_own_string (P := P) w 0 t u rt E i ht.under hu hi hz2 hsize hby v l xs R.own q (by unfold maxLen; omega) hb (Nat.zero_le _)
 have hat : ∀ k, v'.ownBlock = some k → F k := by
  intro k0 hk
  rcases R.own.2 with ⟨rfl, rfl⟩ | ⟨g, cap, cur, rfl, _, hg, hnc, hcm, hcs, htake⟩
  ·by_cases hm : q.size = 0
   ·rw [(h4).2 ⟨rfl, hm⟩] at hk; simp [Value.ownBlock] at hk
   have hr2 := run_append_nil_string (P := P) w t u rt E i (.int .u8 0) ht.under hu hi hz2 q (by omega) (by omega) (by rw [hby]; omega)
   rw [hr] at hr2
   injection hr2 with e1 _
   rw [e1] at hk; simp [Value.ownBlock] at hk
   exact hF k0 (by omega)
  by_cases hroom : l + q.size ≤ cap
  ·have hcs' : cur.size = cap := by simpa using hcs
   have hr2 := Lib.run_append_room_string (P := P) w t u rt E i ht.under hu hi hsize g l cap cur hg q hroom (by omega)
   rw [hr] at hr2
   injection hr2 with e1 _
   rw [e1] at hk
   exact R.at_ k0 hk
  have hxl : xs.length = l := by simpa using R.own.1
  have holds : ∀ j u, xs[j]? = some u → w.cell? ((⟨g, 0, none⟩ : Addr).add j) = some u := R.own.cells (g := g) rfl
  have hr2 := Lib.run_append_grow_string (P := P) w t u rt E i (.int .u8 0) ht.under hu hi hz2 ⟨g, 0, none⟩ l cap xs (by rw [hsize]; simpa using hxl) holds q (by omega) (by omega) (by rw [hby]; exact growslice_fits (by omega) (by omega))
  rw [hr] at hr2
  injection hr2 with e1 _
  rw [e1] at hk; simp [Value.ownBlock] at hk
  exact hF k0 (by omega)
 refine bl rfl hlt (fun a Fr => ?_) (k w' v' ⟨h2, hat⟩ (Ch.of_grown h3 (fun k hk => R.at_ k hk)))
 simp [execOp, resolve, invoke, builtin, Fr.ev hs, Fr.ev hx, hr]
def Ent (P : Program) (f : FuncId) : Prop := ∃ fn c, P.funcs[f]? = some fn ∧ (fn.name == "runtime.NumGoroutine") = false ∧ fn.body = some c
theorem dW {f : FuncId} (hf : Ent P f) (args : Array Value) : (callFunc f args).run P w = .ok (.enter f args) w := by
 obtain ⟨fn, c, h1, h2, h3⟩ := hf
 have h2' : ¬ fn.name = "runtime.NumGoroutine" := by simpa using h2
 simp [callFunc, program, Sem.run, h1, h2', h3]
theorem ai {f : FuncId} (hf : Ent P f) {xs : Array Operand} {ts : Array TypeId} {vs : List Value} {R : Ending → World → Prop} (hlt : Nat.blt d n = true) (hvs : evs e xs.toList = some vs) (hc : Calls P f vs.toArray w R)
  (k : ∀ ed w', R ed w' → ∃ v, ed = .returned v ∧ K ((d, v) :: e) w') : OpE P n ⟨some d, .call { callee := .value (.func f), args := xs, argTypes := ts }, rt, pos, af, gd⟩ e w Q K := fun a F => .inl (by
 have hargs : xs.map a.eval = vs.toArray := by
  apply Array.toList_inj.1
  rw [Array.toList_map, F.evs hvs]
 have hr : (execOp a.eval ⟨some d, .call { callee := .value (.func f), args := xs, argTypes := ts }, rt, pos, af, gd⟩).run P w = .ok (.enter f vs.toArray) w := by
  simp only [execOp, resolve, hargs, Act.eval, Deferred.ofValue]
  simp [invoke, dW hf]
 simp only [Oper.wp, hr, Oper.upon]
 refine hc.mono fun ed w' hR => ?_
 obtain ⟨v, rfl, hK⟩ := k ed w' hR
 exact ⟨_, F.put hlt v, hK⟩)
/-! ### Cuts -/
theorem dX {t E : TypeId} {x : Operand} {lo hi : Option Operand} {A : Option Addr} {len c sz l h q : Nat} (ht : P.underlying t = some (.slice E)) (hsz : (P.info? E).map (·.size) = some sz) (hx : ev e x = some (.slice A len c))
  (hl : match lo with | none => l = 0 | some y => ∃ k, ev e y = some (.int k (l : Int))) (hh : match hi with | none => h = len | some y => ∃ k, ev e y = some (.int k (h : Int))) (h1 : l ≤ h) (h2 : h ≤ c) (hlc : len ≤ c) (hq : h - l = q := by rfl) :
  Pu P S n ⟨dst, .slice t x lo hi none, rt, pos, af, gd⟩ e (.slice (cN A c l sz) q (c - l)) := fun a F w _ => by
 subst hq
 obtain ⟨inf, hinf, rfl⟩ := Option.map_eq_some_iff.1 hsz
 have hs : P.elem t = E := by simp [Program.elem, ht]
 have key : (Instr.sliceAt t (.slice A len c) (lo.map a.eval) (hi.map a.eval) none).run P w = .ok (.slice (cN A c l inf.size) (h - l) (c - l)) w := by
  rw [run_sliceAt_slice w t (.slice A len c) _ _ _ (by rw [hs]; exact ht)]
  cases lo with
  | none =>
   simp only at hl; subst hl
   cases hi with
   | none => simp only at hh; subst hh; rw [Option.map_none, run_slice_all w t A h c (by rw [hs]; exact ht), hs]; simp [sizeOf, typeInfo, hinf, sliced, cN]
   | some y =>
    obtain ⟨k, hk⟩ := hh
    rw [Option.map_none, Option.map_some, F.ev hk, run_slice_h w t A len c (by rw [hs]; exact ht) k (h : Int) (by omega) (by omega), hs]; simp [sizeOf, typeInfo, hinf, sliced, cN]
  | some z =>
   obtain ⟨k, hk⟩ := hl
   cases hi with
   | none => simp only at hh; subst hh; rw [Option.map_none, Option.map_some, F.ev hk, run_slice_l w t A h c (by rw [hs]; exact ht) k (l : Int) (by omega) (by omega), hs]; simp [sizeOf, typeInfo, hinf, sliced, cN]
   | some y =>
    obtain ⟨k', hk'⟩ := hh
    rw [Option.map_some, Option.map_some, F.ev hk, F.ev hk', run_slice_lh w t A len c (by rw [hs]; exact ht) k k' (l : Int) (h : Int) (by omega) (by omega) (by omega), hs]; simp [sizeOf, typeInfo, hinf, sliced, cN]
 simp [execOp, F.ev hx, key]
theorem oP {t E : TypeId} {x : Operand} {lo hi : Option Operand} {b o N sz l h : Nat} (ht : P.underlying t = some (.array N E)) (hsz : (P.info? E).map (·.size) = some sz) (hx : ev e x = some (.pointer (some ⟨b, o, none⟩)))
  (hl : match lo with | none => l = 0 | some y => ∃ k, ev e y = some (.int k (l : Int))) (hh : match hi with | none => h = N | some y => ∃ k, ev e y = some (.int k (h : Int))) (h1 : l ≤ h) (h2 : h ≤ N) :
  Pu P S n ⟨dst, .slice t x lo hi none, rt, pos, af, gd⟩ e (.slice (some (if N = l then ⟨b, o, none⟩ else ⟨b, o + l * sz, none⟩)) (h - l) (N - l)) := fun a F w _ => by
 obtain ⟨inf, hinf, rfl⟩ := Option.map_eq_some_iff.1 hsz
 have hs : P.elem t = E := by simp [Program.elem, ht]
 have hN : P.arrayLen t = N := by simp [Program.arrayLen, ht]
 have hu : P.underlying t = some (.array (P.arrayLen t) (P.elem t)) := by rw [hN, hs]; exact ht
 have key : (Instr.sliceAt t (.pointer (some ⟨b, o, none⟩)) (lo.map a.eval) (hi.map a.eval) none).run P w = .ok (.slice (some (if N = l then ⟨b, o, none⟩ else ⟨b, o + l * inf.size, none⟩)) (h - l) (N - l)) w := by
  cases lo with
  | none =>
   simp only at hl; subst hl
   cases hi with
   | none => simp only at hh; subst hh; rw [Option.map_none, run_sliceAt_array_all w t ⟨b, o, none⟩ hu, hs, hN]; simp [sizeOf, typeInfo, hinf, slicedAt, Addr.add_mid]
   | some y =>
    obtain ⟨k, hk⟩ := hh
    rw [Option.map_none, Option.map_some, F.ev hk, run_sliceAt_array_h w t ⟨b, o, none⟩ hu k (h : Int) (by omega) (by omega), hs, hN]; simp [sizeOf, typeInfo, hinf, slicedAt, Addr.add_mid]
  | some z =>
   obtain ⟨k, hk⟩ := hl
   cases hi with
   | none => simp only at hh; subst hh; rw [Option.map_none, Option.map_some, F.ev hk, run_sliceAt_array_l w t ⟨b, o, none⟩ hu k (l : Int) (by omega) (by omega), hs, hN]; simp [sizeOf, typeInfo, hinf, slicedAt, Addr.add_mid]
   | some y =>
    obtain ⟨k', hk'⟩ := hh
    rw [Option.map_some, Option.map_some, F.ev hk, F.ev hk', run_sliceAt_array_lh w t ⟨b, o, none⟩ hu k k' (l : Int) (h : Int) (by omega) (by omega) (by omega), hs, hN]; simp [sizeOf, typeInfo, hinf, slicedAt, Addr.add_mid]
 simp [execOp, F.ev hx, key]
theorem rT {t u E : TypeId} {x : Operand} {A : Option Addr} {l c : Nat} {bs : List UInt8} {F : Nat → Prop} (ht : P.underlying t = some (.slice E)) (hE : P.underlying E = some (.int .u8)) (hu : P.underlying u = some .string) (hx : ev e x = some (.slice A l c)) (hl : bs.length = l) (hr : ∀ w, S w → Rd w F A (bs.map u8v)) :
  Pu P S n ⟨dst, .convert t u x, rt, pos, af, gd⟩ e (.string (str bs)) := fun a Fr w hw => by
 have key : (convert t u (.slice A l c)).run P w = .ok (.string (str bs)) w := by
  rcases hr w hw with h | ⟨b, o, rfl, _, hc⟩
  ·have hbs : bs = [] := by simpa using h
   subst hbs
   have hl0 : l = 0 := by simpa using hl.symm
   subst hl0
   cases A with
   | none => exact run_convert_bytes_nil (P := P) w t E ht hE 0 c u hu
   | some ad =>
    rw [run_convert_bytes_string w t u E _ 0 c ht hE hu]
    simp [Conv.bytesToString, loadCells, loadCellsFrom, str, ByteArray.empty, ByteArray.emptyWithCapacity]
    rfl
  have h := run_convert_bytes_arg (P := P) w t E ht hE b o l c (bs.map fun b => (b.toNat : Int)) (by simpa using hl) (fun i hi => by
   have := hc i (u8v (bs[i]'(by omega))) (by simp [List.getElem?_eq_getElem (show i < bs.length by omega)])
   rw [this]
   simp [List.getElem?_eq_getElem (show i < bs.length by omega)]) u hu
  rw [h]
  have : (bs.map fun b => (b.toNat : Int)).map (fun n : Int => UInt8.ofNat n.toNat) = bs := by
   rw [List.map_map]
   conv => rhs; rw [← List.map_id bs]
   exact List.map_congr_left fun b _ => by simp
  simp only [str, strOfNums, this]
 simp [execOp, Fr.ev hx, key]
end
end Go.Gx
namespace Go.Gx
open Go.RowKit
def eG (Q : Exit → Act → World → Prop) : Prop := ∀ c (a a' : Act) w, a.defers = a'.defers → Q (.panic c) a w → Q (.panic c) a' w
theorem cP {K : Act → World → Prop} {Q : Exit → Act → World → Prop} (h : eG Q) : eG (Exit.then K Q) := fun c a a' w hd hq => h c a a' w hd hq
theorem em {i : Nat} {Q : Exit → Act → World → Prop} (h : eG Q) : eG (Exit.inBlock i Q) := fun c a a' w hd hq => h c a a' w hd hq
theorem cQ {P : Program} {fn : Func} {R : Ending → World → Prop} : eG (bodyPost P fn R) := fun _ _ _ _ hd hq => ⟨hd ▸ hq.1, hq.2⟩
section
variable {P : Program} {ops : Array Oper} {Q : Exit → Act → World → Prop} {S : World → Prop} {tau : Nat} {n : Nat} {e : Env} {w : World} {md : Region.Mode}
def wpV (P : Program) (md : Region.Mode) (ops : Array Oper) (Q : Exit → Act → World → Prop) (S : World → Prop) (tau : Nat) : Nat → Array Bool → Act → World → Prop
 | 0, listed, a, w => Region.ready md ops listed = [] ∧ Q .normal a w
 | k + 1, listed, a, w => (Region.ready md ops listed = [] → Q .normal a w) ∧ ∀ i ∈ Region.ready md ops listed, wpOp P ops Q i (fun a' w' => ((listed.setIfInBounds i true).getD tau false = true ∨ S w') ∧ wpV P md ops Q S tau k (listed.setIfInBounds i true) a' w') a w
theorem dn : ∀ (k : Nat) (listed : Array Bool) (a : Act) (w : World), wpV P md ops Q S tau k listed a w → wpAny P md ops Q k listed a w
 | 0, _, _, _, h => h
 | k + 1, _, _, _, h => ⟨h.1, fun i hi => wpOp_mono (fun a' w' h' => dn k _ a' w' h'.2) (h.2 i hi)⟩
theorem jd {S' : World → Prop} (hs : ∀ w, S' w → S w) : ∀ (k : Nat) (listed : Array Bool) (a : Act) (w : World), wpV P md ops Q S' tau k listed a w → wpV P md ops Q S tau k listed a w
 | 0, _, _, _, h => h
 | k + 1, _, _, _, h => ⟨h.1, fun i hi => wpOp_mono (fun a' w' h' => ⟨h'.1.imp id (hs w'), jd hs k _ a' w' h'.2⟩) (h.2 i hi)⟩
def Yl (P : Program) (ops : Array Oper) (S : World → Prop) (o : Oper) (v : Value) (a : Act) : Prop :=
 (Region.wanted o (yielded ops a.tmps) = true ∧ ∀ w, S w → (execOp a.eval o).run P w = .ok (.value v) w) ∨ (Region.wanted o (yielded ops a.tmps) = false ∧ v = undef)
theorem Yl.same {o : Oper} {v : Value} {a a' : Act} (h : Yl P ops S o v a) (he : execOp a'.eval o = execOp a.eval o) (hw : Region.wanted o (yielded ops a'.tmps) = Region.wanted o (yielded ops a.tmps)) : Yl P ops S o v a' := by
 unfold Yl at *; rw [he, hw]; exact h
theorem Yl.op {i : Nat} {o : Oper} {v : Value} {a : Act} (hi : ops[i]? = some o) (hy : Yl P ops S o v a) (hS : S w) {K : Act → World → Prop} (h : K (a.put o.dst v) w) : wpOp P ops Q i K a w := by
 unfold wpOp
 simp only [hi]
 rcases hy with ⟨hw, hv⟩ | ⟨hw, rfl⟩
 ·rw [if_pos hw]; exact .inl (by simp only [Oper.wp, hv w hS, Oper.upon]; exact h)
 rw [if_neg (by rw [hw]; decide)]; exact h
theorem swap {j : Nat} {oi oj : Oper} {v : Value} {K : Act → World → Prop} {a : Act} (hj : ops[j]? = some oj) (hap : oi.apart ops oj = true) (hsi : ∀ cs b, oi.op ≠ .select cs b) (hsj : ∀ cs b, oj.op ≠ .select cs b) (hQ : eG Q)
  (hy : Yl P ops S oi v a) (h : wpOp P ops Q j K (a.put oi.dst v) w) : wpOp P ops Q j (fun a' w' => Yl P ops S oi v a' ∧ K (a'.put oi.dst v) w') a w := by
 obtain ⟨h1, h2, h3⟩ := Oper.apart_spec hap
 have keep : ∀ (b : Act), Yl P ops S oi v b → ∀ u, Yl P ops S oi v (b.put oj.dst u) := fun b hb u => hb.same (execOp_put oi hsi b oj.dst u h3) (wanted_put oi b oj.dst u h3)
 have hx : execOp (a.put oi.dst v).eval oj = execOp a.eval oj := execOp_put oj hsj a oi.dst v h1
 have hwt : Region.wanted oj (yielded ops (a.put oi.dst v).tmps) = Region.wanted oj (yielded ops a.tmps) := wanted_put oj a oi.dst v h1
 have comm : ∀ u, (a.put oi.dst v).put oj.dst u = (a.put oj.dst u).put oi.dst v := fun u => Act.put_comm a v u h2
 unfold wpOp at h ⊢
 simp only [hj, hwt] at h ⊢
 by_cases hw : Region.wanted oj (yielded ops a.tmps) = true
 ·rw [if_pos hw] at h ⊢
  refine h.imp (fun h => ?_) (fun h => ⟨by have := h.1; unfold Oper.asks at this ⊢; rwa [hx] at this, h.2⟩)
  unfold Oper.wp at h ⊢
  rw [hx] at h
  revert h
  generalize (execOp a.eval oj).run P w = r
  intro h
  cases r with
  | halt x w' =>
   cases x <;> simp only [Oper.upon] at h ⊢
   exact hQ _ _ _ _ (by cases oi.dst <;> rfl) h
  | ok nx w' =>
   cases nx <;> simp only [Oper.upon] at h ⊢
   ·exact ⟨keep a hy _, by rw [← comm]; exact h⟩
   ·exact ⟨keep a hy _, by rw [← comm]; exact h⟩
   ·rename_i f args
    refine Calls.mono h fun ed w2 hed => ?_
    cases ed with
    | returned u => exact ⟨keep a hy u, by rw [← comm]; exact hed⟩
    | panicked c => exact hQ _ _ _ _ (by cases oi.dst <;> rfl) hed
    | outgrown => exact hed
   ·rename_i d
    refine ⟨keep _ (hy.same (a' := { a with defers := d :: a.defers }) rfl rfl) _, ?_⟩
    rw [← Act.put_comm _ v undef h2, ← Act.put_defers]
    exact h
   exact Rows.mono h fun u w2 hed => ⟨keep a hy u, by rw [← comm]; exact hed⟩
 rw [if_neg hw] at h ⊢
 exact ⟨keep a hy _, by rw [← comm]; exact h⟩
def Closed (md : Region.Mode) (ops : Array Oper) (listed : Array Bool) : Prop := ∀ m om, ops[m]? = some om → listed.getD m false = true → ∀ x ∈ om.after, Region.binds md x = true → listed.getD x.on false = true
theorem Closed.step {listed : Array Bool} {j : Nat} (h : Closed md ops listed) (hj : j ∈ Region.ready md ops listed) : Closed md ops (listed.setIfInBounds j true) := by
 obtain ⟨_, oj, hoj, hall⟩ := mem_ready.1 hj
 intro m om hm hl x hx hb
 by_cases hmj : j = m
 ·subst hmj
  have : oj = om := Option.some.inj (hoj.symm.trans hm)
  subst this
  exact getD_set_true (hall x hx hb)
 rw [getD_set_ne false hmj] at hl
 exact getD_set_true (h m om hm hl x hx hb)
theorem eT (k : Nat) : Closed md ops (Array.replicate k false) := by
 intro m om hm hl
 exfalso
 rcases Nat.lt_or_ge m k with h | h
 ·simp [h] at hl
 simp [Nat.not_lt.2 h] at hl
def eU (md : Region.Mode) (ops : Array Oper) : Nat → Nat → Nat → Bool
 | 0, _, _ => false
 | k + 1, t, i => match ops[t]? with
  | some ot => (ot.after.any fun x => Region.binds md x && x.on == i) || (ot.after.any fun x => Region.binds md x && eU md ops k x.on i)
  | none => false
theorem iE {listed : Array Bool} (hc : Closed md ops listed) {i : Nat} : ∀ (k t : Nat), eU md ops k t i = true → (∀ ot, ops[t]? = some ot → ∀ x ∈ ot.after, Region.binds md x = true → listed.getD x.on false = true) → listed.getD i false = true
 | 0, _, h, _ => by simp [eU] at h
 | k + 1, t, h, hl => by
  unfold eU at h
  cases ho : ops[t]? with
  | none => simp [ho] at h
  | some ot =>
   simp only [ho, Bool.or_eq_true] at h
   rcases h with h | h
   ·obtain ⟨x, hx, hb⟩ := Array.any_eq_true'.1 h
    simp only [Bool.and_eq_true, beq_iff_eq] at hb
    rw [← hb.2]; exact hl ot ho x hx hb.1
   obtain ⟨x, hx, hb⟩ := Array.any_eq_true'.1 h
   simp only [Bool.and_eq_true] at hb
   exact iE hc k x.on hb.2 (fun ot2 ho2 => hc x.on ot2 ho2 (hl ot ho x hx hb.1))
theorem rU {i : Nat} {oi : Oper} {v : Value} (hi : ops[i]? = some oi) (hsel : ∀ (j : Nat) (o : Oper) cs b, ops[j]? = some o → o.op ≠ .select cs b) (hQ : eG Q) (hne : i ≠ tau) :
  ∀ (k : Nat) (listed : Array Bool) (S' : World → Prop), ((∀ w, S' w) ∨ ((∀ w, S w → S' w) ∧ listed.getD tau false = false ∧ eU md ops 8 tau i = true) ∨ ((∀ w, S w → S' w) ∧ listed.getD tau false = false ∧ ops.size ≤ tau)) → Closed md ops listed → ∀ (a : Act) (w : World),
   (∀ j oj, ops[j]? = some oj → j ≠ i → listed.getD j true = false → (∀ x ∈ oj.after, Region.binds md x = true → x.on ≠ i) → oi.apart ops oj = true) →
   i ∈ Region.ready md ops listed → Yl P ops S' oi v a → (listed.getD tau false = true ∨ S w) →
   wpV P md ops Q S tau k (listed.setIfInBounds i true) (a.put oi.dst v) w → wpV P md ops Q S tau (k + 1) listed a w := by
 intro k
 induction k with
 | zero =>
  intro listed S' hS' hcl a w _ hr hy hS H
  have hSw : S' w := by
   rcases hS' with h | ⟨h, ht, _⟩ | ⟨h, ht, _⟩
   ·exact h w
   ·rcases hS with h' | h'
    ·rw [ht] at h'; cases h'
    exact h w h'
   rcases hS with h' | h'
   ·rw [ht] at h'; cases h'
   exact h w h'
  refine ⟨(fun h => by rw [h] at hr; cases hr), fun j hj => ?_⟩
  by_cases hji : j = i
  ·subst hji
   refine hy.op hi hSw ⟨?_, H⟩
   rcases hS with h' | h'
   ·exact .inl (by rw [getD_set_ne false hne]; exact h')
   exact .inr h'
  have := ready_mono hj hji
  rw [H.1] at this; cases this
 | succ k ih =>
  intro listed S' hS' hcl a w hfree hr hy hS H
  have hSw : S' w := by
   rcases hS' with h | ⟨h, ht, _⟩ | ⟨h, ht, _⟩
   ·exact h w
   ·rcases hS with h' | h'
    ·rw [ht] at h'; cases h'
    exact h w h'
   rcases hS with h' | h'
   ·rw [ht] at h'; cases h'
   exact h w h'
  have hiun : listed.getD i true = false := (mem_ready.1 hr).1
  refine ⟨(fun h => by rw [h] at hr; cases hr), fun j hj => ?_⟩
  by_cases hji : j = i
  ·subst hji
   refine hy.op hi hSw ⟨?_, H⟩
   rcases hS with h' | h'
   ·exact .inl (by rw [getD_set_ne false hne]; exact h')
   exact .inr h'
  have h1 := H.2 j (ready_mono hj hji)
  obtain ⟨hjun, oj, hoj, hall⟩ := mem_ready.1 hj
  have hnot : ∀ x ∈ oj.after, Region.binds md x = true → x.on ≠ i := fun x hx hb heq => by
   have h2 := hall x hx hb
   rw [heq] at h2
   rcases Nat.lt_or_ge i listed.size with h' | h'
   ·simp [h'] at hiun h2; rw [hiun] at h2; cases h2
   simp [Array.getElem?_eq_none h'] at h2
  have h2 := swap (S := S') hoj (hfree j oj hoj hji hjun hnot) (fun cs b => hsel i oi cs b hi) (fun cs b => hsel j oj cs b hoj) hQ hy h1
  have hjt : eU md ops 8 tau i = true → j ≠ tau := by
   rintro hw rfl
   have h5 := iE hcl 8 j hw (fun ot hot x hx hb => by
    have : oj = ot := Option.some.inj (hoj.symm.trans hot)
    subst this
    exact hall x hx hb)
   rcases Nat.lt_or_ge i listed.size with h' | h'
   ·simp [h'] at hiun h5; rw [hiun] at h5; cases h5
   simp [Array.getElem?_eq_none h'] at h5
  refine wpOp_mono (fun a' w' h3 => ?_) h2
  obtain ⟨hy', hS2, H2⟩ := h3
  have hS3 : (listed.setIfInBounds j true).getD tau false = true ∨ S w' := by
   rcases hS2 with h | h
   ·left
    rw [Array.setIfInBounds_comm _ _ (Ne.symm hji), getD_set_ne false hne] at h
    exact h
   exact .inr h
  refine ⟨hS3, ih (listed.setIfInBounds j true) S' ?_ (hcl.step hj) a' w' ?_ (ready_mono hr (Ne.symm hji)) hy' hS3 ?_⟩
  ·rcases hS' with h | ⟨h, ht, hw⟩ | ⟨h, ht, hsz⟩
   ·exact .inl h
   ·exact .inr (.inl ⟨h, by rw [getD_set_ne false (hjt hw)]; exact ht, hw⟩)
   refine .inr (.inr ⟨h, ?_, hsz⟩)
   have hjl : j < ops.size := (Array.getElem?_eq_some_iff.1 hoj).1
   rw [getD_set_ne false (by omega)]; exact ht
  ·intro m om hm hmi hun hno
   refine hfree m om hm hmi ?_ hno
   by_cases hjm : j = m
   ·subst hjm; exact hjun
   rw [getD_set_ne true hjm] at hun; exact hun
  rw [Array.setIfInBounds_comm _ _ hji]; exact H2
inductive OT where
 | nil : OT
 | st (i p : Nat) (r : OT) : OT
 | alt (x y : OT) : OT
def OT.len : OT → Nat
 | .nil => 0
 | .st _ _ r => r.len + 1
 | .alt x _ => x.len
def OT.heads : OT → List Nat
 | .nil => []
 | .st i _ _ => [i]
 | .alt x y => x.heads ++ y.heads
inductive WS0 (P : Program) (ops : Array Oper) (Q : Exit → Act → World → Prop) (n : Nat) : (World → Prop) → OT → Env → World → Prop
 | nil {S : World → Prop} {e : Env} {w : World} (h : WQ Q n .normal e w) : WS0 P ops Q n S .nil e w
 | pure {S : World → Prop} {i : Nat} {o : Oper} {d : Nat} {v : Value} {r : OT} {e : Env} {w : World} (ho : ops[i]? = some o) (hg : ∀ a, Fr n a e → Region.wanted o (yielded ops a.tmps) = true) (hd : o.dst = some d) (hlt : Nat.blt d n = true) (hp : Pu P (fun _ => True) n o e v) (k : WS0 P ops Q n S r ((d, v) :: e) w) : WS0 P ops Q n S (.st i 0 r) e w
 | held {S : World → Prop} {i : Nat} {o : Oper} {d : Nat} {v : Value} {r : OT} {e : Env} {w : World} (ho : ops[i]? = some o) (hg : ∀ a, Fr n a e → Region.wanted o (yielded ops a.tmps) = true) (hd : o.dst = some d) (hlt : Nat.blt d n = true) (hp : Pu P S n o e v) (k : WS0 P ops Q n S r ((d, v) :: e) w) : WS0 P ops Q n S (.st i 1 r) e w
 | skip {S : World → Prop} {i : Nat} {o : Oper} {d : Nat} {r : OT} {b : Nat} {e : Env} {w : World} (ho : ops[i]? = some o) (hg : ∀ a, Fr n a e → Region.wanted o (yielded ops a.tmps) = false) (hd : o.dst = some d) (hlt : Nat.blt d n = true) (k : WS0 P ops Q n S r ((d, undef) :: e) w) : WS0 P ops Q n S (.st i b r) e w
 | skip0 {S : World → Prop} {i : Nat} {o : Oper} {r : OT} {b : Nat} {e : Env} {w : World} (ho : ops[i]? = some o) (hg : ∀ a, Fr n a e → Region.wanted o (yielded ops a.tmps) = false) (hd : o.dst = none) (k : WS0 P ops Q n S r e w) : WS0 P ops Q n S (.st i b r) e w
 | eff {S : World → Prop} {i : Nat} {o : Oper} {r : OT} {e : Env} {w : World} (K : Env → World → Prop) (ho : ops[i]? = some o) (hg : ∀ a, Fr n a e → Region.wanted o (yielded ops a.tmps) = true) (h : OpE P n o e w Q K) (hk : ∀ e' w', K e' w' → S w') (k : ∀ e' w', K e' w' → WS0 P ops Q n S r e' w') : WS0 P ops Q n S (.st i 2 r) e w
 | last {S : World → Prop} {i : Nat} {o : Oper} {r : OT} {e : Env} {w : World} (K : Env → World → Prop) (ho : ops[i]? = some o) (hg : ∀ a, Fr n a e → Region.wanted o (yielded ops a.tmps) = true) (h : OpE P n o e w Q K) (k : ∀ e' w', K e' w' → WS0 P ops Q n S r e' w') : WS0 P ops Q n S (.st i 3 r) e w
 | narrow {S S' : World → Prop} {l : OT} {e : Env} {w : World} (hw : S' w) (hs : ∀ x, S' x → S x) (k : WS0 P ops Q n S' l e w) : WS0 P ops Q n S l e w
 | alt {S : World → Prop} {x y : OT} {e : Env} {w : World} (h : WS0 P ops Q n S x e w) (k : WS0 P ops Q n S y e w) : WS0 P ops Q n S (.alt x y) e w
abbrev WS (P : Program) (ops : Array Oper) (Q : Exit → Act → World → Prop) (S : World → Prop) (n : Nat) (l : OT) (e : Env) (w : World) : Prop := WS0 P ops Q n S l e w
def l8 (md : Region.Mode) (ops : Array Oper) (t i : Nat) : Bool := Nat.ble ops.size t || eU md ops 8 t i
def bm (md : Region.Mode) (ops : Array Oper) (tau : Nat) : OT → Bool → Array Bool → Bool
 | .nil, solo, listed => solo && (Region.ready md ops listed).isEmpty
 | .st i p r, solo, listed => (match p with
   | 0 => solo && (Region.ready md ops listed).contains i && Region.free md ops listed i && i != tau
   | 1 => solo && (Region.ready md ops listed).contains i && Region.free md ops listed i && i != tau && !listed.getD tau false && (l8 md ops tau i)
   | 2 => (!solo || (Region.ready md ops listed) == [i]) && i != tau
   | _ => (!solo || (Region.ready md ops listed) == [i]) && (listed.setIfInBounds i true).getD tau false) && bm md ops tau r true (listed.setIfInBounds i true)
 | .alt x y, solo, listed => (!solo || ((Region.ready md ops listed).all (x.heads ++ y.heads).contains && !(Region.ready md ops listed).isEmpty)) && x.len == y.len && bm md ops tau x false listed && bm md ops tau y false listed
theorem je {t i : Nat} (h : l8 md ops t i = true) : eU md ops 8 t i = true ∨ ops.size ≤ t := by
 unfold l8 at h
 rcases Bool.or_eq_true_iff.1 h with h | h
 ·exact .inr (Nat.le_of_ble_eq_true h)
 exact .inl h
def Hd (P : Program) (ops : Array Oper) (Q : Exit → Act → World → Prop) (S : World → Prop) (tau : Nat) (t : OT) (listed : Array Bool) (a : Act) (w : World) : Prop :=
 ∀ i ∈ t.heads, i ∈ Region.ready .any ops listed → wpOp P ops Q i (fun a' w' => ((listed.setIfInBounds i true).getD tau false = true ∨ S w') ∧ wpV P .any ops Q S tau (t.len - 1) (listed.setIfInBounds i true) a' w') a w
theorem alone {i : Nat} {listed : Array Bool} {a : Act} {m : Nat} (hr : Region.ready md ops listed = [i]) (h : wpOp P ops Q i (fun a' w' => ((listed.setIfInBounds i true).getD tau false = true ∨ S w') ∧ wpV P md ops Q S tau m (listed.setIfInBounds i true) a' w') a w) : wpV P md ops Q S tau (m + 1) listed a w :=
 ⟨(fun h0 => by rw [hr] at h0; cases h0), fun j hj => by rw [hr] at hj; simp only [List.mem_singleton] at hj; subst hj; exact h⟩
theorem jf (hs : Region.noSelect ops = true) (hQ : eG Q) : ∀ (S : World → Prop) (l : OT) (e : Env) (w : World), WS0 P ops Q n S l e w → ∀ (listed : Array Bool), Closed .any ops listed → (listed.getD tau false = true ∨ S w) → ∀ a, Fr n a e →
  (bm .any ops tau l true listed = true → wpV P .any ops Q S tau l.len listed a w) ∧ (bm .any ops tau l false listed = true → Hd P ops Q S tau l listed a w) := by
 intro S l e w hws
 have hsel := fun (j : Nat) (o : Oper) cs b ho => Region.noSelect_spec hs j o cs b ho
 have takeIt : ∀ {S : World → Prop} {i : Nat} {o : Oper} {d : Nat} {v : Value} {m : Nat} {listed : Array Bool} {a : Act} {w : World} (S' : World → Prop), ops[i]? = some o → o.dst = some d → i ≠ tau → ((∀ w, S' w) ∨ ((∀ w, S w → S' w) ∧ listed.getD tau false = false ∧ l8 .any ops tau i = true)) →
   Closed .any ops listed → (listed.getD tau false = true ∨ S w) → Region.free .any ops listed i = true → (Region.ready .any ops listed).contains i = true → Yl P ops S' o v a → wpV P .any ops Q S tau m (listed.setIfInBounds i true) (a.put (some d) v) w → wpV P .any ops Q S tau (m + 1) listed a w := by
  intro S i o d v m listed a w S' ho hd hne hS' hcl hS hf hr hy H
  refine rU ho hsel hQ hne m listed S' ?_ hcl a w (Region.free_spec ho hf) (by simpa using hr) hy hS (by rw [hd]; exact H)
  rcases hS' with h | ⟨h, ht, hw⟩
  ·exact .inl h
  rcases je hw with h2 | h2
  ·exact .inr (.inl ⟨h, ht, h2⟩)
  exact .inr (.inr ⟨h, ht, h2⟩)
 have takeIt0 : ∀ {S : World → Prop} {i : Nat} {o : Oper} {v : Value} {m : Nat} {listed : Array Bool} {a : Act} {w : World} (S' : World → Prop), ops[i]? = some o → o.dst = none → i ≠ tau → ((∀ w, S' w) ∨ ((∀ w, S w → S' w) ∧ listed.getD tau false = false ∧ l8 .any ops tau i = true)) →
   Closed .any ops listed → (listed.getD tau false = true ∨ S w) → Region.free .any ops listed i = true → (Region.ready .any ops listed).contains i = true → Yl P ops S' o v a → wpV P .any ops Q S tau m (listed.setIfInBounds i true) a w → wpV P .any ops Q S tau (m + 1) listed a w := by
  intro S i o v m listed a w S' ho hd hne hS' hcl hS hf hr hy H
  refine rU ho hsel hQ hne m listed S' ?_ hcl a w (Region.free_spec ho hf) (by simpa using hr) hy hS (by rw [hd]; exact H)
  rcases hS' with h | ⟨h, ht, hw⟩
  ·exact .inl h
  rcases je hw with h2 | h2
  ·exact .inr (.inl ⟨h, ht, h2⟩)
  exact .inr (.inr ⟨h, ht, h2⟩)
 have after : ∀ {S : World → Prop} {i : Nat} {listed : Array Bool} {w : World}, i ≠ tau → (listed.getD tau false = true ∨ S w) → ((listed.setIfInBounds i true).getD tau false = true ∨ S w) := fun {S i listed w} hne h => h.imp (fun h => by rw [getD_set_ne false hne]; exact h) id
 have one : ∀ {S : World → Prop} {i : Nat} {listed : Array Bool} {w : World}, (listed.getD tau false = true ∨ S w) → ((listed.setIfInBounds i true).getD tau false = true ∨ S w) := fun {S i listed w} h => h.imp (fun h => getD_set_true h) id
 -- one step that has an effect, or is left out
 have step : ∀ {S : World → Prop} {i p : Nat} {r : OT} {listed : Array Bool} {a : Act} {w : World}, 2 ≤ p → (i ∈ Region.ready .any ops listed → wpOp P ops Q i (fun a' w' => ((listed.setIfInBounds i true).getD tau false = true ∨ S w') ∧ wpV P .any ops Q S tau r.len (listed.setIfInBounds i true) a' w') a w) →
   (bm .any ops tau (.st i p r) true listed = true → wpV P .any ops Q S tau (OT.len (.st i p r)) listed a w) ∧ (bm .any ops tau (.st i p r) false listed = true → Hd P ops Q S tau (.st i p r) listed a w) := by
  intro S i p r listed a w hp h
  refine ⟨fun hok => ?_, fun _ j hj hr => ?_⟩
  ·have hr : Region.ready .any ops listed = [i] := by
    match p, hp, hok with
    | 2, _, hok => simp only [bm, Bool.and_eq_true, Bool.not_true, Bool.false_or, beq_iff_eq] at hok; exact hok.1.1
    | p + 3, _, hok => simp only [bm, Bool.and_eq_true, Bool.not_true, Bool.false_or, beq_iff_eq] at hok; exact hok.1.1
   exact alone hr (h (by rw [hr]; simp))
  simp only [OT.heads, List.mem_singleton] at hj
  subst hj; exact h hr
 have rest : ∀ {i p : Nat} {r : OT} {solo : Bool} {listed : Array Bool}, bm .any ops tau (.st i p r) solo listed = true → bm .any ops tau r true (listed.setIfInBounds i true) = true := by
  intro i p r solo listed h
  simp only [bm, Bool.and_eq_true] at h
  exact h.2
 induction hws with
 | nil h =>
  intro listed hcl hS a F
  refine ⟨fun hok => ?_, fun hok => ?_⟩
  ·simp only [bm, Bool.true_and, List.isEmpty_iff] at hok
   exact ⟨hok, h a F⟩
  simp [bm] at hok
 | @pure S i o d v r e w ho hg hd hlt hp k ih =>
  intro listed hcl hS a F
  refine ⟨fun hok => ?_, fun hok => by simp [bm] at hok⟩
  have hr := rest hok
  simp only [bm, Bool.and_eq_true, bne_iff_ne, Bool.true_and] at hok
  have hri : i ∈ Region.ready .any ops listed := by simpa using hok.1.1.1
  exact takeIt (fun _ => True) ho hd hok.1.2 (.inl fun _ => trivial) hcl hS hok.1.1.2 hok.1.1.1 (.inl ⟨hg a F, fun w hw => hp a F w hw⟩) ((ih _ (hcl.step hri) (one hS) _ (F.put hlt v)).1 hr)
 | @held S i o d v r e w ho hg hd hlt hp k ih =>
  intro listed hcl hS a F
  refine ⟨fun hok => ?_, fun hok => by simp [bm] at hok⟩
  have hr := rest hok
  simp only [bm, Bool.and_eq_true, bne_iff_ne, Bool.not_eq_true', Bool.true_and] at hok
  have hri : i ∈ Region.ready .any ops listed := by simpa using hok.1.1.1.1.1
  exact takeIt S ho hd hok.1.1.1.2 (.inr ⟨fun _ h => h, hok.1.1.2, hok.1.2⟩) hcl hS hok.1.1.1.1.2 hok.1.1.1.1.1 (.inl ⟨hg a F, fun w hw => hp a F w hw⟩) ((ih _ (hcl.step hri) (one hS) _ (F.put hlt v)).1 hr)
 | @skip S i o d r b e w ho hg hd hlt k ih =>
  intro listed hcl hS a F
  have hy : Yl P ops (fun _ => True) o undef a := .inr ⟨hg a F, rfl⟩
  match b with
  | 0 =>
   refine ⟨fun hok => ?_, fun hok => by simp [bm] at hok⟩
   have hr := rest hok
   simp only [bm, Bool.and_eq_true, bne_iff_ne, Bool.true_and] at hok
   have hk := (ih _ (hcl.step (j := i) (by first | simpa using hok.1.1.1 | simpa using hok.1.1.1.1.1)) (one (i := i) hS) _ (F.put hlt undef)).1 hr
   exact takeIt (fun _ => True) ho hd hok.1.2 (.inl fun _ => trivial) hcl hS hok.1.1.2 hok.1.1.1 hy hk
  | 1 =>
   refine ⟨fun hok => ?_, fun hok => by simp [bm] at hok⟩
   have hr := rest hok
   simp only [bm, Bool.and_eq_true, bne_iff_ne, Bool.true_and] at hok
   have hk := (ih _ (hcl.step (j := i) (by first | simpa using hok.1.1.1 | simpa using hok.1.1.1.1.1)) (one (i := i) hS) _ (F.put hlt undef)).1 hr
   exact takeIt (fun _ => True) ho hd hok.1.1.1.2 (.inl fun _ => trivial) hcl hS hok.1.1.1.1.2 hok.1.1.1.1.1 hy hk
  | b + 2 =>
   have hh : ∀ solo, bm .any ops tau (.st i (b + 2) r) solo listed = true → i ∈ Region.ready .any ops listed → wpOp P ops Q i (fun a' w' => ((listed.setIfInBounds i true).getD tau false = true ∨ S w') ∧ wpV P .any ops Q S tau r.len (listed.setIfInBounds i true) a' w') a w := fun solo hok hri => by
    have hk := (ih _ (hcl.step hri) (one (i := i) hS) _ (F.put hlt undef)).1 (rest hok)
    exact hy.op ho trivial ⟨one hS, by rw [hd]; exact hk⟩
   exact ⟨fun hok => (step (by omega) (hh true hok)).1 hok, fun hok => (step (by omega) (hh false hok)).2 hok⟩
 | @skip0 S i o r b e w ho hg hd k ih =>
  intro listed hcl hS a F
  have hy : Yl P ops (fun _ => True) o undef a := .inr ⟨hg a F, rfl⟩
  match b with
  | 0 =>
   refine ⟨fun hok => ?_, fun hok => by simp [bm] at hok⟩
   have hr := rest hok
   simp only [bm, Bool.and_eq_true, bne_iff_ne, Bool.true_and] at hok
   have hk := (ih _ (hcl.step (j := i) (by first | simpa using hok.1.1.1 | simpa using hok.1.1.1.1.1)) (one (i := i) hS) _ F).1 hr
   exact takeIt0 (fun _ => True) ho hd hok.1.2 (.inl fun _ => trivial) hcl hS hok.1.1.2 hok.1.1.1 hy hk
  | 1 =>
   refine ⟨fun hok => ?_, fun hok => by simp [bm] at hok⟩
   have hr := rest hok
   simp only [bm, Bool.and_eq_true, bne_iff_ne, Bool.true_and] at hok
   have hk := (ih _ (hcl.step (j := i) (by first | simpa using hok.1.1.1 | simpa using hok.1.1.1.1.1)) (one (i := i) hS) _ F).1 hr
   exact takeIt0 (fun _ => True) ho hd hok.1.1.1.2 (.inl fun _ => trivial) hcl hS hok.1.1.1.1.2 hok.1.1.1.1.1 hy hk
  | b + 2 =>
   have hh : ∀ solo, bm .any ops tau (.st i (b + 2) r) solo listed = true → i ∈ Region.ready .any ops listed → wpOp P ops Q i (fun a' w' => ((listed.setIfInBounds i true).getD tau false = true ∨ S w') ∧ wpV P .any ops Q S tau r.len (listed.setIfInBounds i true) a' w') a w := fun solo hok hri => by
    have hk := (ih _ (hcl.step hri) (one (i := i) hS) _ F).1 (rest hok)
    exact hy.op ho trivial ⟨one hS, by rw [hd]; exact hk⟩
   exact ⟨fun hok => (step (by omega) (hh true hok)).1 hok, fun hok => (step (by omega) (hh false hok)).2 hok⟩
 | @eff S i o r e w K ho hg h hk k ih =>
  intro listed hcl hS a F
  have hh : ∀ solo, bm .any ops tau (.st i 2 r) solo listed = true → i ∈ Region.ready .any ops listed → wpOp P ops Q i (fun a' w' => ((listed.setIfInBounds i true).getD tau false = true ∨ S w') ∧ wpV P .any ops Q S tau r.len (listed.setIfInBounds i true) a' w') a w := fun solo hok hri => by
   unfold wpOp
   simp only [ho, hg a F, if_true]
   rcases h a F with h | h
   ·exact .inl (Oper.wp_mono (fun a' w' ⟨e', F', hK⟩ => ⟨.inr (hk e' w' hK), (ih e' w' hK _ (hcl.step hri) (.inr (hk e' w' hK)) a' F').1 (rest hok)⟩) h)
   exact .inr h
  exact ⟨fun hok => (step (by omega) (hh true hok)).1 hok, fun hok => (step (by omega) (hh false hok)).2 hok⟩
 | @last S i o r e w K ho hg h k ih =>
  intro listed hcl hS a F
  have hh : ∀ solo, bm .any ops tau (.st i 3 r) solo listed = true → i ∈ Region.ready .any ops listed → wpOp P ops Q i (fun a' w' => ((listed.setIfInBounds i true).getD tau false = true ∨ S w') ∧ wpV P .any ops Q S tau r.len (listed.setIfInBounds i true) a' w') a w := fun solo hok hri => by
   have ht : (listed.setIfInBounds i true).getD tau false = true := by simp only [bm, Bool.and_eq_true] at hok; exact hok.1.2
   unfold wpOp
   simp only [ho, hg a F, if_true]
   rcases h a F with h | h
   ·exact .inl (Oper.wp_mono (fun a' w' ⟨e', F', hK⟩ => ⟨.inl ht, (ih e' w' hK _ (hcl.step hri) (.inl ht) a' F').1 (rest hok)⟩) h)
   exact .inr h
  exact ⟨fun hok => (step (by omega) (hh true hok)).1 hok, fun hok => (step (by omega) (hh false hok)).2 hok⟩
 | @narrow S S' l e w hw hs k ih =>
  intro listed hcl hS a F
  have h := ih listed hcl (.inr hw) a F
  exact ⟨fun hok => jd hs _ _ _ _ (h.1 hok), fun hok i hi hr => wpOp_mono (fun a' w' h' => ⟨h'.1.imp id (hs w'), jd hs _ _ _ _ h'.2⟩) (h.2 hok i hi hr)⟩
 | @alt S x y e w h k ih1 ih2 =>
  intro listed hcl hS a F
  have hh : ∀ solo, bm .any ops tau (.alt x y) solo listed = true → Hd P ops Q S tau (.alt x y) listed a w := fun solo hok => by
   simp only [bm, Bool.and_eq_true, beq_iff_eq] at hok
   intro i hi hr
   simp only [OT.heads, List.mem_append] at hi
   rcases hi with hi | hi
   ·exact (ih1 listed hcl hS a F).2 hok.1.2 i hi hr
   have := (ih2 listed hcl hS a F).2 hok.2 i hi hr
   simp only [OT.len]; rw [hok.1.1.2]; exact this
  refine ⟨fun hok => ?_, hh false⟩
  have h2 := hh true hok
  simp only [bm, Bool.and_eq_true, Bool.not_true, Bool.false_or, beq_iff_eq, Bool.not_eq_true', List.all_eq_true] at hok
  have hne := hok.1.1.1.2
  have hpos : ∃ m, OT.len (.alt x y) = m + 1 := by
   have hx : ∀ t : OT, bm .any ops tau t false listed = true → ∃ m, t.len = m + 1 := by
    intro t
    induction t with
    | nil => intro h; simp [bm] at h
    | st i p r _ => intro _; exact ⟨_, rfl⟩
    | alt x y ihx _ => intro h; simp only [bm, Bool.and_eq_true] at h; exact ihx h.1.2
   exact hx x hok.1.2
  obtain ⟨m, hm⟩ := hpos
  rw [hm]
  refine ⟨fun h0 => by rw [h0] at hne; simp at hne, fun j hj => ?_⟩
  have h3 := h2 j (by have := hok.1.1.1.1 j hj; simp only [OT.heads]; simpa using this) hj
  rw [hm] at h3; exact h3
theorem dc {id : Nat} (l : OT) (tau : Nat) (hm : P.follows .mixedOrders = true) (hs : Region.noSelect ops = true) (hc : (bm .any ops tau l true (Array.replicate ops.size false) && Nat.beq l.len ops.size) = true) (hQ : eG Q)
  (S : World → Prop) (hS : S w.drew) (h : WS P ops Q S n l e w.drew) : WC P Q n (.region id ops true) e w := fun a F => by
 simp only [Bool.and_eq_true] at hc
 refine wp_region_any hm (dn (S := S) (tau := tau) _ _ _ _ ?_)
 have hl : l.len = ops.size := Nat.eq_of_beq_eq_true hc.2
 rw [← hl]
 exact hl ▸ (jf hs hQ S l e w.drew h _ (eT _) (.inr hS) a F).1 hc.1
theorem gU {S' : World → Prop} {l : OT} (hw : S' w) (hs : ∀ x, S' x → S x) (k : WS P ops Q S' n l e w) : WS P ops Q S n l e w := .narrow hw hs k
theorem bh {x y : OT} (h : WS P ops Q S n x e w) (k : WS P ops Q S n y e w) : WS P ops Q S n (.alt x y) e w := .alt h k
theorem aW (h : WQ Q n .normal e w) : WS P ops Q S n .nil e w := .nil h
theorem ws_p {i : Nat} {o : Oper} {d : Nat} {v : Value} {r : OT} (ho : ops[i]? = some o) (hg : o.guard = none) (hd : o.dst = some d) (hlt : Nat.blt d n = true) (hp : Pu P (fun _ => True) n o e v) (k : WS P ops Q S n r ((d, v) :: e) w) : WS P ops Q S n (.st i 0 r) e w :=
 .pure ho (fun a F => by simp [Region.wanted, hg]) hd hlt hp k
theorem ws_h {i : Nat} {o : Oper} {d : Nat} {v : Value} {r : OT} (ho : ops[i]? = some o) (hg : o.guard = none) (hd : o.dst = some d) (hlt : Nat.blt d n = true) (hp : Pu P S n o e v) (k : WS P ops Q S n r ((d, v) :: e) w) : WS P ops Q S n (.st i 1 r) e w :=
 .held ho (fun a F => by simp [Region.wanted, hg]) hd hlt hp k
theorem ax {i : Nat} {o : Oper} {r : OT} (ho : ops[i]? = some o) (hg : o.guard = none) (h : OpE P n o e w Q (fun e' w' => S w' ∧ WS P ops Q S n r e' w')) : WS P ops Q S n (.st i 2 r) e w :=
 .eff _ ho (fun a F => by simp [Region.wanted, hg]) h (fun _ _ h => h.1) (fun _ _ h => h.2)
theorem bf {i : Nat} {o : Oper} {r : OT} (ho : ops[i]? = some o) (hg : o.guard = none) (h : OpE P n o e w Q (fun e' w' => WS P ops Q S n r e' w')) : WS P ops Q S n (.st i 3 r) e w :=
 .last _ ho (fun a F => by simp [Region.wanted, hg]) h (fun _ _ h => h)
theorem aL {i : Nat} {o : Oper} {d : Nat} {v : Value} {r : OT} (ho : ops[i]? = some o) (hg : ∀ a, Fr n a e → Region.wanted o (yielded ops a.tmps) = true) (hd : o.dst = some d) (hlt : Nat.blt d n = true) (hp : Pu P (fun _ => True) n o e v) (k : WS P ops Q S n r ((d, v) :: e) w) : WS P ops Q S n (.st i 0 r) e w :=
 .pure ho hg hd hlt hp k
theorem cR {i : Nat} {o : Oper} {d : Nat} {v : Value} {r : OT} (ho : ops[i]? = some o) (hg : ∀ a, Fr n a e → Region.wanted o (yielded ops a.tmps) = true) (hd : o.dst = some d) (hlt : Nat.blt d n = true) (hp : Pu P S n o e v) (k : WS P ops Q S n r ((d, v) :: e) w) : WS P ops Q S n (.st i 1 r) e w :=
 .held ho hg hd hlt hp k
theorem ma {i : Nat} {o : Oper} {r : OT} (ho : ops[i]? = some o) (hg : ∀ a, Fr n a e → Region.wanted o (yielded ops a.tmps) = true) (h : OpE P n o e w Q (fun e' w' => S w' ∧ WS P ops Q S n r e' w')) : WS P ops Q S n (.st i 2 r) e w :=
 .eff _ ho hg h (fun _ _ h => h.1) (fun _ _ h => h.2)
theorem ws_lg {i : Nat} {o : Oper} {r : OT} (ho : ops[i]? = some o) (hg : ∀ a, Fr n a e → Region.wanted o (yielded ops a.tmps) = true) (h : OpE P n o e w Q (fun e' w' => WS P ops Q S n r e' w')) : WS P ops Q S n (.st i 3 r) e w :=
 .last _ ho hg h (fun _ _ h => h)
theorem dy {i : Nat} {o : Oper} {d : Nat} {r : OT} {b : Nat} (ho : ops[i]? = some o) (hg : ∀ a, Fr n a e → Region.wanted o (yielded ops a.tmps) = false) (hd : o.dst = some d) (hlt : Nat.blt d n = true) (k : WS P ops Q S n r ((d, undef) :: e) w) : WS P ops Q S n (.st i b r) e w := .skip ho hg hd hlt k
theorem ws_s0 {i : Nat} {o : Oper} {r : OT} {b : Nat} (ho : ops[i]? = some o) (hg : ∀ a, Fr n a e → Region.wanted o (yielded ops a.tmps) = false) (hd : o.dst = none) (k : WS P ops Q S n r e w) : WS P ops Q S n (.st i b r) e w := .skip0 ho hg hd k
theorem gd_ {o oj : Oper} {j d : Nat} {want r : Bool} {v : Value} (hg : o.guard = some (j, want)) (hj : ops[j]? = some oj) (hd : oj.dst = some d) (hlt : Nat.blt d n = true) (hl : look d e = some v) (hr : (match v with | .bool b => b == want | _ => false) = r) : ∀ a, Fr n a e → Region.wanted o (yielded ops a.tmps) = r := fun a F => by
 have hv := F.get d v hl
 have hdn : d < a.tmps.size := by rw [F.size]; simpa [Nat.blt_eq] using hlt
 have hat : a.tmps[d]? = some v := by
  simp [Array.getD_eq_getD_getElem?, Array.getElem?_eq_getElem hdn] at hv ⊢
  exact hv
 subst hr
 unfold Region.wanted
 simp only [hg, yielded, hj, Option.bind_some, hd, hat]
 cases v <;> simp
end
end Go.Gx
namespace Go.Gx
open Go.RowKit
theorem eH {p : Prop} [Decidable p] (h : (!decide p) = true) : ¬ p := by simpa using h
theorem dY {p : Prop} [Decidable p] (h : (!decide p) = false) : p := by simpa using h
theorem jg (b : UInt8) : IntKind.i64.wrap (b.toNat : Int) = (b.toNat : Int) := w64 (by have := b.toNat_lt; omega)
def Le (e e' : Env) : Prop := ∀ t v, look t e' = some v → look t e = some v
theorem Le.fr {e e' : Env} (h : Le e e') {n : Nat} {a : Act} (F : Fr n a e) : Fr n a e' := ⟨F.size, F.defs, fun t v hv => F.get t v (h t v hv)⟩
theorem Le.cons {e e' : Env} (h : Le e e') (d : Nat) (v : Value) : Le ((d, v) :: e) ((d, v) :: e') := fun t u hu => by
 rw [ce] at hu ⊢
 by_cases hk : d = t
 ·rw [if_pos hk] at hu ⊢; exact hu
 rw [if_neg hk] at hu ⊢; exact h t u hu
theorem Le.known {e : Env} {d : Nat} {v : Value} (hl : look d e = some v) : Le e ((d, v) :: e) := fun t u hu => by
 rw [ce] at hu
 by_cases hk : d = t
 ·rw [if_pos hk] at hu; subst hk; rw [hl]; exact hu
 rw [if_neg hk] at hu; exact hu
section
variable {P : Program} {ops : Array Oper} {Q : Exit → Act → World → Prop} {S : World → Prop} {n : Nat} {e : Env} {w : World} {rest : List Oper} {o : Oper} {d : Nat}
theorem aq {v : Value} (hg : ∀ a, Fr n a e → Region.wanted o (yielded ops a.tmps) = true) (hd : o.dst = some d) (hlt : Nat.blt d n = true) (hp : Pu P (· = w) n o e v) (k : WL P ops Q n rest ((d, v) :: e) w) : WL P ops Q n (o :: rest) e w := by
 intro a F
 unfold wpList
 rw [if_pos (hg a F)]
 refine .inl ?_
 simp only [Oper.wp, hp a F w rfl, Oper.upon, hd]
 exact k _ (F.put hlt v)
theorem aM (hg : ∀ a, Fr n a e → Region.wanted o (yielded ops a.tmps) = false) (hd : o.dst = some d) (hlt : Nat.blt d n = true) (k : WL P ops Q n rest ((d, undef) :: e) w) : WL P ops Q n (o :: rest) e w := by
 intro a F
 unfold wpList
 rw [if_neg (by rw [hg a F]; decide), hd]
 exact k _ (F.put hlt undef)
theorem bX (hg : ∀ a, Fr n a e → Region.wanted o (yielded ops a.tmps) = true) (h : OpE P n o e w Q (fun e' w' => WL P ops Q n rest e' w')) : WL P ops Q n (o :: rest) e w := by
 intro a F
 unfold wpList
 rw [if_pos (hg a F)]
 rcases h a F with h | h
 ·exact .inl (Oper.wp_mono (fun a' w' ⟨e', F', hk⟩ => hk a' F') h)
 exact .inr h
theorem bH {l : List Oper} {b b' : Bool} (hl : look d e = some (.bool b)) (hb : b = b') (k : WL P ops Q n l ((d, .bool b') :: e) w) : WL P ops Q n l e w := fun a F => k a ((Le.known (hb ▸ hl)).fr F)
theorem az {l : List Oper} {b : Bool} (hl : look d e = some (.bool b)) (ht : b = true → WL P ops Q n l ((d, .bool true) :: e) w) (hf : b = false → WL P ops Q n l ((d, .bool false) :: e) w) : WL P ops Q n l e w := by
 cases b with
 | true => exact bH hl rfl (ht rfl)
 | false => exact bH hl rfl (hf rfl)
theorem OpE.le {e' : Env} {K : Env → World → Prop} (h : Le e e') (k : OpE P n o e' w Q K) : OpE P n o e w Q K := fun a F => k a (h.fr F)
theorem WS.le {l : OT} : ∀ {S : World → Prop} {e' : Env} {w : World}, WS P ops Q S n l e' w → ∀ {e : Env}, Le e e' → WS P ops Q S n l e w := by
 intro S e' w h
 induction h with
 | nil h => intro e hl; exact .nil fun a F => h a (hl.fr F)
 | pure ho hg hd hlt hp k ih => intro e hl; exact .pure ho (fun a F => hg a (hl.fr F)) hd hlt (fun a F => hp a (hl.fr F)) (ih (hl.cons _ _))
 | held ho hg hd hlt hp k ih => intro e hl; exact .held ho (fun a F => hg a (hl.fr F)) hd hlt (fun a F => hp a (hl.fr F)) (ih (hl.cons _ _))
 | skip ho hg hd hlt k ih => intro e hl; exact .skip ho (fun a F => hg a (hl.fr F)) hd hlt (ih (hl.cons _ _))
 | skip0 ho hg hd k ih => intro e hl; exact .skip0 ho (fun a F => hg a (hl.fr F)) hd (ih hl)
 | eff K ho hg h hk k ih => intro e hl; exact .eff K ho (fun a F => hg a (hl.fr F)) (h.le hl) hk k
 | last K ho hg h k ih => intro e hl; exact .last K ho (fun a F => hg a (hl.fr F)) (h.le hl) k
 | narrow hw hs k ih => intro e hl; exact .narrow hw hs (ih hl)
 | alt h k ih1 ih2 => intro e hl; exact .alt (ih1 hl) (ih2 hl)
theorem oQ {l : OT} {b b' : Bool} (hl : look d e = some (.bool b)) (hb : b = b') (k : WS P ops Q S n l ((d, .bool b') :: e) w) : WS P ops Q S n l e w := k.le (Le.known (hb ▸ hl))
theorem bV {l : OT} {b : Bool} (hl : look d e = some (.bool b)) (ht : b = true → WS P ops Q S n l ((d, .bool true) :: e) w) (hf : b = false → WS P ops Q S n l ((d, .bool false) :: e) w) : WS P ops Q S n l e w := by
 cases b with
 | true => exact oQ hl rfl (ht rfl)
 | false => exact oQ hl rfl (hf rfl)
end
/-! ### Slices whose elements are of one cell each, f of an element -/
structure Sl {α : Type} (w : World) (F : Nat → Prop) (f : α → Value) (A : Option Addr) (l c : Nat) (xs : List α) : Prop where
 rd : Rd w F A (xs.map f)
 len : xs.length = l
 cap : l ≤ c
section
variable {α : Type} {w w' : World} {T F G : Nat → Prop} {f : α → Value} {A : Option Addr} {l c : Nat} {xs : List α}
theorem Sl.ch (h : Sl w F f A l c xs) (k : Ch T w w') (hn : ∀ i, F i → ¬ T i) : Sl w' F f A l c xs := ⟨h.rd.ch k hn, h.len, h.cap⟩
theorem Sl.no (h : Sl w F f A l c xs) (k : Ch No w w') : Sl w' F f A l c xs := h.ch k (fun _ _ h => h)
theorem Sl.mono (h : Sl w F f A l c xs) (hF : ∀ k, k < w.heap.size → F k → G k) : Sl w G f A l c xs := ⟨h.rd.mono hF, h.len, h.cap⟩
theorem Sl.chT (h : Sl w F f A l c xs) (k : Ch T w w') (hn : ∀ i, i < w.heap.size → F i → ¬ T i) : Sl w' (fun i => F i ∧ i < w.heap.size) f A l c xs := (h.mono (G := fun i => F i ∧ i < w.heap.size) (fun i hi hF => ⟨hF, hi⟩)).ch k (fun i hF => hn i hF.2 hF.1)
theorem Sl.old (h : Sl w F f A l c xs) : Sl w (fun k => k < w.heap.size) f A l c xs := h.mono fun _ h _ => h
theorem Sl.nil : Sl w F f (none : Option Addr) 0 0 [] := ⟨.nil, rfl, Nat.le_refl _⟩
theorem Sl.opn {d : α} (h : Sl w F f A l c xs) (h0 : 0 < l) : ∃ b o, A = some ⟨b, o, none⟩ ∧ F b ∧ ∀ j, j < l → w.cell? ⟨b, o + j, none⟩ = some (f (xs.getD j d)) := by
 rcases h.rd with h1 | ⟨b, o, hA, hF, hc⟩
 ·have : xs.length = 0 := by have := congrArg List.length h1; simpa using this
  have := h.len; omega
 refine ⟨b, o, hA, hF, fun j hj => hc j _ ?_⟩
 have : j < xs.length := by have := h.len; omega
 simp [List.getElem?_eq_getElem this, List.getD]
theorem Sl.none_len (h : Sl w F f none l c xs) : l = 0 ∧ xs = [] := by
 rcases h.rd with h1 | ⟨b, o, hA, _, _⟩
 ·have h2 : xs = [] := by simpa using h1
  subst h2; exact ⟨h.len.symm, rfl⟩
 cases hA
theorem Sl.cut (h : Sl w F f A l c xs) {lo hi q : Nat} (h1 : lo ≤ hi) (h2 : hi ≤ l) (hq : hi - lo = q := by rfl) : Sl w F f (cN A c lo 1) q (c - lo) ((xs.drop lo).take q) := by
 subst hq
 have hl := h.len; have hc := h.cap
 refine ⟨?_, by rw [List.length_take, List.length_drop]; omega, by omega⟩
 have := (h.rd.cut (c := c) (l := lo) (sz := 1) (by rw [List.length_map]; omega)).take (hi - lo)
 rwa [Nat.mul_one, ← List.map_drop, ← List.map_take] at this
theorem Sl.cutTo (h : Sl w F f A l c xs) {lo : Nat} (h1 : lo ≤ l) : Sl w F f (cN A c lo 1) (l - lo) (c - lo) (xs.drop lo) := by
 have := h.cut (lo := lo) (hi := l) h1 (Nat.le_refl _)
 rwa [List.take_of_length_le (by rw [List.length_drop, h.len]; exact Nat.le_refl _)] at this
theorem Sl.size (h : Sl w F f A l c xs) (h0 : 0 < l) {b o : Nat} (hA : A = some ⟨b, o, none⟩) : b < w.heap.size := by
 rcases h.rd with h1 | ⟨b', o', hA', hF, hc⟩
 ·have : xs.length = 0 := by have := congrArg List.length h1; simpa using this
  have := h.len; omega
 rw [hA] at hA'; cases hA'
 rcases xs with _ | ⟨x, r⟩
 ·have := h.len; simp at this; omega
 exact World.block_lt_of_cell? w _ (hc 0 _ rfl)
end
theorem dZ {α : Type} {f : α → Value} (hf : ∀ x, (f x).oneCell' = true) (xs : List α) : ∀ u ∈ xs.map f, u.oneCell' = true := fun u hu => by
 obtain ⟨x, _, rfl⟩ := List.mem_map.1 hu; exact hf x
theorem aX (b : UInt8) : (u8v b).oneCell' = true := rfl
theorem bK (b : BitVec 32) : (aO b).oneCell' = true := rfl
section
variable {w w' : World} {F G T : Nat → Prop} {E : TypeId} {sz n : Nat} {v : Value} {xs : List Value} {A : Option Addr} {c : Nat}
theorem Row.shape (h : Row w F E sz v n xs) : ∃ A c, v = .slice A n c := by obtain ⟨A, c, rfl, _⟩ := h.form; exact ⟨A, c, rfl⟩
theorem Row.rd (h : Row w F E sz (.slice A n c) n xs) : Rd w F A xs := by
 obtain ⟨A', c', hv, _, _, hr⟩ := h.form
 cases hv; exact hr
theorem Row.cap_ (h : Row w F E sz (.slice A n c) n xs) : n ≤ c := by
 obtain ⟨A', c', hv, hc, _⟩ := h.form
 cases hv; exact hc
theorem Row.sl {α : Type} {f : α → Value} {ys : List α} (h : Row w F E 1 (.slice A n c) n (ys.map f)) : Sl w F f A n c ys := ⟨h.rd, by have := h.len; simpa using this, h.cap_⟩
theorem Row.after (h : Row w F E sz v n xs) (k : Ch No w w') : Row w' (fun i => F i ∧ (i < w.heap.size ∨ w'.heap.size ≤ i)) E sz v n xs :=
 (h.mono (G := fun i => F i ∧ (i < w.heap.size ∨ w'.heap.size ≤ i)) (fun i hi hF => ⟨hF, .inl hi⟩)).no k
theorem Row.afterT (h : Row w F E sz v n xs) (k : Ch T w w') (hn : ∀ i, i < w.heap.size → F i → ¬ T i) : Row w' (fun i => F i ∧ (i < w.heap.size ∨ w'.heap.size ≤ i)) E sz v n xs :=
 (h.mono (G := fun i => F i ∧ (i < w.heap.size ∨ w'.heap.size ≤ i)) (fun i hi hF => ⟨hF, .inl hi⟩)).ch k (fun i hi hF => hn i hi hF.1)
theorem Row.of_lit {g : Nat} {cs : Array Value} {l : Nat} (h : Blk w g E cs) (hF : F g) (hs : cs.size = l * sz) (hm : l ≤ maxLen) : Row w F E sz (.slice (some ⟨g, 0, none⟩) l l) l cs.toList := by
 have := Row.of_blk (n := l) h hF (Nat.le_refl l) hm hs
 rwa [List.take_of_length_le (by rw [Array.length_toList, hs]; exact Nat.le_refl _)] at this
theorem Rd.of_lit {g : Nat} {cs : Array Value} (h : Blk w g E cs) : Rd w (fun k => k = g) (some ⟨g, 0, none⟩) cs.toList := by
 have := Rd.of_blk (F := fun k => k = g) h rfl 0 cs.toList.length
 rwa [List.drop_zero, List.take_length] at this
end
theorem Sl.lit {α : Type} {f : α → Value} {w : World} {E : TypeId} {g : Nat} {cs : Array Value} {xs : List α} {l : Nat} (h : Blk w g E cs) (hx : cs.toList = xs.map f) (hl : xs.length = l) : Sl w (fun k => k = g) f (some ⟨g, 0, none⟩) l l xs :=
 ⟨hx ▸ Rd.of_lit h, hl, Nat.le_refl _⟩
theorem Sl.lit1 {α : Type} {f : α → Value} {w : World} {E : TypeId} {g : Nat} {x : α} (h : Blk w g E #[f x]) : Sl w (fun k => k = g) f (some ⟨g, 0, none⟩) 1 1 [x] := Sl.lit h rfl rfl
theorem Sl.lit2 {α : Type} {f : α → Value} {w : World} {E : TypeId} {g : Nat} {x y : α} (h : Blk w g E #[f x, f y]) : Sl w (fun k => k = g) f (some ⟨g, 0, none⟩) 2 2 [x, y] := Sl.lit h rfl rfl
theorem Row.lit {α : Type} {f : α → Value} {w : World} {F : Nat → Prop} {E : TypeId} {g : Nat} {cs : Array Value} {xs : List α} {l : Nat} (h : Blk w g E cs) (hF : F g) (hx : cs.toList = xs.map f) (hl : xs.length = l) (hm : l ≤ maxLen) : Row w F E 1 (.slice (some ⟨g, 0, none⟩) l l) l (xs.map f) := by
 have := Row.of_lit (F := F) (sz := 1) (l := l) h hF (by rw [← Array.length_toList, hx, List.length_map, hl, Nat.mul_one]) hm
 rwa [hx] at this
/-! ### Local arrays of one kind of element: cells (L.map f) -/
section
variable {α : Type} {f : α → Value} {L : List α} {w : World} {g : Nat} {t : TypeId}
theorem aV (h : Blk w g t (L.map f).toArray) {d : α} {i : Nat} (hi : i < L.length) : w.cell? ⟨g, i, none⟩ = some (f (L.getD i d)) :=
 h.cell (by simp [List.getElem?_eq_getElem hi, List.getD])
theorem szL {P : Program} {t : TypeId} {m : Nat} {l : List Value} (h : (P.info? t).map (·.size) = some m) (hl : l.length = m) : (P.info? t).map (·.size) = some l.length := by rw [h, hl]
theorem Sl.arr {N lo : Nat} (h : Blk w g t (L.map f).toArray) (hN : L.length = N) (hlo : lo ≤ N) : Sl w (fun k => k = g) f (some (if N = lo then ⟨g, 0, none⟩ else ⟨g, 0 + lo * 1, none⟩)) (N - lo) (N - lo) (L.drop lo) := by
 refine ⟨?_, by rw [List.length_drop, hN], Nat.le_refl _⟩
 by_cases hl : N = lo
 ·rw [List.drop_of_length_le (by omega)]; exact .nil
 rw [if_neg hl, Nat.zero_add, Nat.mul_one]
 have := Rd.of_blk (F := fun k => k = g) h rfl lo N
 rwa [List.take_of_length_le (by rw [List.length_drop]; simp; omega), show (L.map f).toArray.toList = L.map f from rfl, ← List.map_drop] at this
theorem aN {cs : List Value} (h : Blk w g t cs.toArray) : w.rangeAt g 0 cs := tI h (by simp)
theorem setL {i : Nat} {x : α} : ((L.map f).toArray.setIfInBounds i (f x)) = ((L.set i x).map f).toArray := by
 apply Array.toList_inj.1
 simp [List.map_set]
end
section
variable {P : Program} {Q : Exit → Act → World → Prop} {S : World → Prop} {n : Nat} {e : Env} {w : World} {rt : TypeId} {pos : String} {af : Array Edge} {gd : Option (Nat × Bool)} {d : Nat} {dst : Option Tmp} {K : Env → World → Prop}
theorem e_stb {s t E : TypeId} {x : Operand} {q : ByteArray} (hlt : Nat.blt d n = true) (hs : P.underlying s = some .string) (ht : P.underlying t = some (.slice E)) (he : P.underlying E = some (.int .u8)) (hx : ev e x = some (.string q))
  (k : ∀ w' g c, g = w.heap.size → Sl w' (fun k => k = g) u8v (some ⟨g, 0, none⟩) q.size c q.data.toList → Ch No w w' → w'.heap.size = g + 1 → K ((d, .slice (some ⟨g, 0, none⟩) q.size c) :: e) w') : OpE P n ⟨some d, .convert s t x, rt, pos, af, gd⟩ e w Q K := by
 have hch : Ch No w (Lib.bytesWorld w E q) := by
  refine ⟨?_, ?_, ?_, by rw [Lib.bytesWorld_size]; omega, fun i hi _ => Lib.bytesWorld_at_old w E q i hi⟩ <;> (unfold Lib.bytesWorld World.freeze; rw [if_neg (by decide)]; rfl)
 refine bl rfl hlt (w' := Lib.bytesWorld w E q) (fun a F => ?_) (k _ w.heap.size (grownCap w q.size 0 E) rfl ⟨.inr ⟨w.heap.size, 0, rfl, rfl, fun j u hj => ?_⟩, Array.length_toList, ?_⟩ hch (Lib.bytesWorld_size w E q))
 ·simp [execOp, F.ev hx, Lib.run_convert_string_bytes w s t E q hs ht he]
 ·rw [List.getElem?_map] at hj
  obtain ⟨y, hy, rfl⟩ := Option.map_eq_some_iff.1 hj
  have hjl : j < q.data.toList.length := (List.getElem?_eq_some_iff.1 hy).1
  have := Lib.bytesWorld_cell w E q j (by rw [Array.length_toList] at hjl; exact hjl)
  rw [Nat.zero_add, this]
  simp [List.getD, hy]
 exact grownCap_ge w q.size 0 E
theorem dF {α : Type} {f : α → Value} {L : List α} {x : α} {t : TypeId} {a b : Operand} {g o : Nat} {E : TypeId} (hf : ∀ x, (f x).oneCell' = true) (hi : (P.info? t).map (·.size) = some 1) (hx : ev e a = some (.pointer (some ⟨g, o, none⟩))) (hy : ev e b = some (f x)) (hb : Blk w g E (L.map f).toArray) (ho : o < L.length)
  (k : ∀ w', Blk w' g E ((L.set o x).map f).toArray → Ch (fun k => k = g) w w' → w'.heap.size = w.heap.size → K e w') : OpE P n ⟨none, .store t a b, rt, pos, af, gd⟩ e w Q K :=
 qr hi (hf x) hx hy hb (by simpa using ho) (fun w' h => k w' (setL ▸ h))
theorem jh {t : TypeId} {a b : Operand} {g : Nat} {E : TypeId} {u v : Value} (hi : (P.info? t).map (·.size) = some 1) (h1 : v.oneCell' = true) (hx : ev e a = some (.pointer (some ⟨g, 0, none⟩))) (hy : ev e b = some v) (hb : Blk w g E #[u])
  (k : ∀ w', Blk w' g E #[v] → Ch (fun k => k = g) w w' → w'.heap.size = w.heap.size → K e w') : OpE P n ⟨none, .store t a b, rt, pos, af, gd⟩ e w Q K :=
 qr hi h1 hx hy hb (by simp) (fun w' h => k w' (by simpa using h))
theorem cV {t : TypeId} {a b : Operand} {g : Nat} {E : TypeId} {cs : Array Value} {vs : List Value} (hi : (P.info? t).map (·.size) = some vs.length) (h1 : ∀ v ∈ vs, v.oneCell' = true) (hx : ev e a = some (.pointer (some ⟨g, 0, none⟩))) (hy : ev e b = some (.agg vs.toArray)) (hb : Blk w g E cs) (hs : cs.size = vs.length)
  (k : ∀ w', Blk w' g E vs.toArray → Ch (fun k => k = g) w w' → w'.heap.size = w.heap.size → K e w') : OpE P n ⟨none, .store t a b, rt, pos, af, gd⟩ e w Q K :=
 e_stA hi h1 hx hy hb (by omega) (fun w' cs' h hl => k w' (by
  have : cs' = vs.toArray := by
   apply Array.toList_inj.1
   rw [hl]
   simp [List.drop_eq_nil_of_le (show cs.toList.length ≤ vs.length by simp [hs])]
  exact this ▸ h))
theorem dO {t E : TypeId} {x i : Operand} {A : Option Addr} {b o l c j : Nat} {k : IntKind} {I : Int} (ht : P.underlying t = some (.slice E)) (hsz : (P.info? E).map (·.size) = some 1) (hx : ev e x = some (.slice A l c)) (hA : A = some ⟨b, o, none⟩)
  (hi : ev e i = some (.int k I)) (h0 : 0 ≤ I) (h1 : I < l) (hj : I.toNat = j) : Pu P S n ⟨dst, .indexAddr t x i, rt, pos, af, gd⟩ e (.pointer (some ⟨b, o + j, none⟩)) := du ht hsz hx hA hi h0 h1 (by rw [Nat.mul_one]; exact hj)
theorem aJ {t E : TypeId} {x i : Operand} {b l j : Nat} {k : IntKind} {I : Int} (ht : P.underlying t = some (.array l E)) (hsz : (P.info? E).map (·.size) = some 1) (hx : ev e x = some (.pointer (some ⟨b, 0, none⟩)))
  (hi : ev e i = some (.int k I)) (h0 : 0 ≤ I) (h1 : I < l) (hj : I.toNat = j) : Pu P S n ⟨dst, .indexAddr t x i, rt, pos, af, gd⟩ e (.pointer (some ⟨b, j, none⟩)) := by
 have := iC (S := S) (n := n) (dst := dst) (rt := rt) (pos := pos) (af := af) (gd := gd) ht hsz hx hi h0 h1 (j := j) (by rw [Nat.mul_one]; exact hj)
 rwa [Nat.zero_add] at this
theorem fM {t E : TypeId} {x i : Operand} {b o l j : Nat} {k : IntKind} {I : Int} (ht : P.underlying t = some (.array l E)) (hsz : (P.info? E).map (·.size) = some 1) (hx : ev e x = some (.pointer (some ⟨b, o, none⟩)))
  (hi : ev e i = some (.int k I)) (h0 : 0 ≤ I) (h1 : I < l) (hj : I.toNat = j) : Pu P S n ⟨dst, .indexAddr t x i, rt, pos, af, gd⟩ e (.pointer (some ⟨b, o + j, none⟩)) :=
 iC ht hsz hx hi h0 h1 (j := j) (by rw [Nat.mul_one]; exact hj)
theorem iP {t t' E : TypeId} {x y : Operand} {A : Option Addr} {l c l' c' : Nat} (hx : ev e x = some (.slice A l c)) (hy : ev e y = some (.slice none l' c')) (ht : P.underlying t = some (.slice E)) : Pu P S n ⟨dst, .binOp .eql t x y t', rt, pos, af, gd⟩ e (.bool A.isNone) := fun a F w _ => by
 have h2 : (binOp .eql t (.slice A l c) (.slice none l' c')).run P w = .ok (.bool A.isNone) w := Lib.run_eql_slice_nil w t E A l c l' c' ht
 simp [execOp, F.ev hx, F.ev hy, eqGuard, h2]
theorem kM {t t' E : TypeId} {x y : Operand} {A : Option Addr} {l c l' c' : Nat} (hx : ev e x = some (.slice A l c)) (hy : ev e y = some (.slice none l' c')) (ht : P.underlying t = some (.slice E)) : Pu P S n ⟨dst, .binOp .neq t x y t', rt, pos, af, gd⟩ e (.bool (!A.isNone)) := fun a F w _ => by
 have h2 : (binOp .neq t (.slice A l c) (.slice none l' c')).run P w = .ok (.bool (!A.isNone)) w := run_neq_slice_nil_any w t E A l c l' c' ht
 simp [execOp, F.ev hx, F.ev hy, eqGuard, h2]
theorem p_neB {t t' : TypeId} {x y : Operand} {b c : Bool} (hx : ev e x = some (.bool b)) (hy : ev e y = some (.bool c)) (ht : P.underlying t = some .bool) : Pu P S n ⟨dst, .binOp .neq t x y t', rt, pos, af, gd⟩ e (.bool (b != c)) := fun a F w _ => by
 have h : ∀ k, (Op.equalIn (k + 1) t (.bool b) (.bool c)).run P w = .ok (b == c) w := fun k => by simp [Op.equalIn, run_underlying ht]
 have h2 : (Op.equal t (.bool b) (.bool c)).run P w = .ok (b == c) w := h 9999
 simp [execOp, F.ev hx, F.ev hy, binOp, eqGuard, h2, bne]
theorem p_max {x y : Operand} {ts : Array TypeId} {k k' : IntKind} {X Y : Int} (hx : ev e x = some (.int k X)) (hy : ev e y = some (.int k' Y)) : Pu P S n ⟨dst, .call { callee := .builtin .max, args := #[x, y], argTypes := ts }, rt, pos, af, gd⟩ e (.int k (if Y > X then Y else X)) := fun a F w _ => by
 simp [execOp, resolve, invoke, builtin, Builtin.max_, Builtin.max2, F.ev hx, F.ev hy]
theorem mc {fn : Fn} {xs : Array Operand} {vs : List Value} (hvs : evs e xs.toList = some vs) : Pu P S n ⟨dst, .makeFunc fn #[] xs, rt, pos, af, gd⟩ e (.func fn #[] vs.toArray) := fun a F w _ => by
 have h : xs.map a.eval = vs.toArray := by
  apply Array.toList_inj.1
  rw [Array.toList_map, F.evs hvs]
 simp [execOp, Instr.makeFunc, h]
theorem e_callV {f : FuncId} (hf : Ent P f) {x : Operand} {xs : Array Operand} {ts : Array TypeId} {vs cs : List Value} {R : Ending → World → Prop} (hlt : Nat.blt d n = true) (hx : ev e x = some (.func (.func f) #[] cs.toArray)) (hvs : evs e xs.toList = some vs) (hc : Calls P f (vs ++ cs).toArray w R)
  (k : ∀ ed w', R ed w' → ∃ v, ed = .returned v ∧ K ((d, v) :: e) w') : OpE P n ⟨some d, .call { callee := .value x, args := xs, argTypes := ts }, rt, pos, af, gd⟩ e w Q K := fun a F => .inl (by
 have hargs : xs.map a.eval = vs.toArray := by
  apply Array.toList_inj.1
  rw [Array.toList_map, F.evs hvs]
 have hr : (execOp a.eval ⟨some d, .call { callee := .value x, args := xs, argTypes := ts }, rt, pos, af, gd⟩).run P w = .ok (.enter f (vs ++ cs).toArray) w := by
  simp only [execOp, resolve, hargs, F.ev hx, Deferred.ofValue]
  simp [invoke, dW hf]
 simp only [Oper.wp, hr, Oper.upon]
 refine hc.mono fun ed w' hR => ?_
 obtain ⟨v, rfl, hK⟩ := k ed w' hR
 exact ⟨_, F.put hlt v, hK⟩)
theorem p_min {x y : Operand} {ts : Array TypeId} {k k' : IntKind} {X Y : Int} (hx : ev e x = some (.int k X)) (hy : ev e y = some (.int k' Y)) : Pu P S n ⟨dst, .call { callee := .builtin .min, args := #[x, y], argTypes := ts }, rt, pos, af, gd⟩ e (.int k (if Y < X then Y else X)) := fun a F w _ => by
 simp [execOp, resolve, invoke, builtin, Builtin.min_, Builtin.min2, F.ev hx, F.ev hy]
theorem me {s t : TypeId} {x : Operand} {k : IntKind} {X : Int} {D : TypeDesc} (hs : P.underlying s = some D) (ht : P.underlying t = some (.int .u8)) (hx : ev e x = some (.int k X)) (h0 : 0 ≤ X) : Pu P S n ⟨dst, .convert s t x, rt, pos, af, gd⟩ e (u8v (UInt8.ofNat X.toNat)) :=
 bB hs ht hx (by
  obtain ⟨y, rfl⟩ := Int.eq_ofNat_of_zero_le h0
  rw [wu8n]; simp)
theorem bZ {s t : TypeId} {x : Operand} {k : IntKind} {X : Nat} {D : TypeDesc} (hs : P.underlying s = some D) (ht : P.underlying t = some (.int .u8)) (hx : ev e x = some (.int k (X : Int))) : Pu P S n ⟨dst, .convert s t x, rt, pos, af, gd⟩ e (u8v (UInt8.ofNat X)) :=
 bB hs ht hx (by rw [wu8n]; simp)
theorem cI {s t : TypeId} {x : Operand} {b : UInt8} {D : TypeDesc} (hs : P.underlying s = some D) (ht : P.underlying t = some (.int .u32)) (hx : ev e x = some (u8v b)) : Pu P S n ⟨dst, .convert s t x, rt, pos, af, gd⟩ e (aO (BitVec.ofNat 32 b.toNat)) :=
 bB hs ht hx (by rw [oM, BitVec.toNat_ofNat])
theorem cJ {s t : TypeId} {x : Operand} {X : BitVec 32} {D : TypeDesc} (hs : P.underlying s = some D) (ht : P.underlying t = some (.int .u8)) (hx : ev e x = some (aO X)) : Pu P S n ⟨dst, .convert s t x, rt, pos, af, gd⟩ e (u8v (UInt8.ofNat X.toNat)) :=
 bB hs ht hx (by rw [wu8n]; simp)
theorem bJ {α : Type} {f : α → Value} {t E : TypeId} {a b : Operand} {by_ : Nat} {v : Value} {l m c : Nat} {ys xs : List α} {F Fx : Nat → Prop} {A : Option Addr} (hlt : Nat.blt d n = true) (ht : ElT P t E 1 by_) (hf : ∀ x, (f x).oneCell' = true) (hs : ev e a = some v) (hx : ev e b = some (.slice A m c)) (R : Row w F E 1 v l (ys.map f)) (X : Sl w Fx f A m c xs)
  (hb : (l + m) * by_ ≤ 140737488355328) (hF : ∀ k, w.heap.size ≤ k → F k)
  (k : ∀ w' A' c', Row w' F E 1 (.slice A' (l + m) c') (l + m) ((ys ++ xs).map f) → Ch F w w' → K ((d, .slice A' (l + m) c') :: e) w') (h63 : l + m ≤ maxLen := by unfold maxLen; omega) : OpE P n ⟨some d, .call { callee := .builtin .append, args := #[a, b], argTypes := #[t, t] }, rt, pos, af, gd⟩ e w Q K :=
 rR hlt ht hs hx R X.rd (by rw [List.length_map, X.len, Nat.mul_one]) (dZ hf xs) hb h63 hF (fun w' v' h c => by
  obtain ⟨A', c', rfl⟩ := h.shape
  exact k w' A' c' (by rw [List.map_append]; exact h) c)
theorem rV {t u E : TypeId} {a b : Operand} {v : Value} {l : Nat} {ys : List UInt8} {F : Nat → Prop} {q : ByteArray} (hlt : Nat.blt d n = true) (ht : ElT P t E 1 1) (hz : (P.info? E).map (·.zero) = some (some (.int .u8 0))) (hu : P.underlying u = some .string) (hs : ev e a = some v) (hx : ev e b = some (.string q)) (R : Row w F E 1 v l (ys.map u8v))
  (hb : l + q.size ≤ 140737488355328) (hF : ∀ k, w.heap.size ≤ k → F k)
  (k : ∀ w' A' c', Row w' F E 1 (.slice A' (l + q.size) c') (l + q.size) ((ys ++ q.data.toList).map u8v) → Ch F w w' → K ((d, .slice A' (l + q.size) c') :: e) w') : OpE P n ⟨some d, .call { callee := .builtin .append, args := #[a, b], argTypes := #[t, u] }, rt, pos, af, gd⟩ e w Q K :=
 rS hlt ht hz hu hs hx R hb hF (fun w' v' h c => by
  obtain ⟨A', c', rfl⟩ := h.shape
  exact k w' A' c' (by rw [List.map_append]; exact h) c)
theorem ElT.of {t E : TypeId} {z : Value} {sz by_ : Nat} (ht : P.underlying t = some (.slice E)) (hi : (P.info? E).map (fun i => (i.zero, i.size, i.bytes)) = some (some z, sz, by_)) (hz : z.cells.size = sz) (h0 : 0 < sz) : ElT P t E sz by_ := by
 obtain ⟨i, h1, h2, h3, h4⟩ := info_parts hi
 exact ⟨ht, ⟨i, z, h1, h2, h3, h4, hz⟩, h0⟩
theorem eV {t t' : TypeId} {x y : Operand} {k k' : IntKind} {X Y : Nat} (hx : ev e x = some (.int k (X : Int))) (hy : ev e y = some (.int k' (Y : Int))) (hY : Nat.ble Y k.bits = true) : Pu P S n ⟨dst, .binOp .shr t x y t', rt, pos, af, gd⟩ e (.int k ((X / 2 ^ Y : Nat) : Int)) :=
 rO hx hy (by omega) (by
  rw [Int.toNat_natCast, Nat.min_eq_left (Nat.le_of_ble_eq_true hY), show ((2 : Int) ^ Y) = ((2 ^ Y : Nat) : Int) by push_cast; rfl, Int.fdiv_eq_ediv_of_nonneg _ (Int.natCast_nonneg _), ← Int.natCast_ediv])
theorem Ch.setRow (w : World) (g : Nat) (cs : Array Value) : Ch (fun k => k = g) w (w.setRow g cs) := ⟨rfl, rfl, rfl, by simp, fun k _ hn => setRow_other w g k cs hn⟩
theorem p_slA2 {t E : TypeId} {x : Operand} {lo : Operand} {b o N l : Nat} (ht : P.underlying t = some (.array N E)) (hsz : (P.info? E).map (·.size) = some 1) (hx : ev e x = some (.pointer (some ⟨b, o, none⟩)))
  (hl : ∃ k, ev e lo = some (.int k (l : Int))) (h1 : l < N) : Pu P S n ⟨dst, .slice t x (some lo) none none, rt, pos, af, gd⟩ e (.slice (some ⟨b, o + l, none⟩) (N - l) (N - l)) := by
 have := oP (S := S) (n := n) (e := e) (dst := dst) (rt := rt) (pos := pos) (af := af) (gd := gd) (hi := none) (h := N) ht hsz hx (lo := some lo) hl rfl (by omega) (Nat.le_refl _)
 rwa [if_neg (by omega), Nat.mul_one] at this
theorem p_ixG {α : Type} {f : α → Value} {L : List α} {t E : TypeId} {D : TypeDesc} {x i : Operand} {N j : Nat} {k : IntKind} {I : Int} {d0 : α} (ht : P.underlying t = some (.array N E)) (hE : P.underlying E = some D) (hfl : cj D = true) (hsz : (P.info? E).map (·.size) = some 1) (hx : ev e x = some (.agg (L.map f).toArray)) (hi : ev e i = some (.int k I)) (h0 : 0 ≤ I) (h1 : I < N) (hL : L.length = N) (hj : I.toNat = j) : Pu P S n ⟨dst, .index t x i, rt, pos, af, gd⟩ e (f (L.getD j d0)) := fun a F w _ => by
 obtain ⟨inf, hinf, hs1⟩ := Option.map_eq_some_iff.1 hsz
 subst hj
 have hlt : I.toNat < L.length := by omega
 have hag : (isAgg E).run P w = .ok false w := by
  cases D <;> simp [cj] at hfl <;> simp [isAgg, run_underlying hE]
 have hcell : (L.map f).toArray[I.toNat]? = some (f (L.getD I.toNat d0)) := by simp [List.getElem?_eq_getElem hlt, List.getD]
 have hrun : (Instr.index t (.agg (L.map f).toArray) (.int k I)).run P w = .ok (f (L.getD I.toNat d0)) w := by
  simp only [Instr.index, asIntOf, Sem.run_bind, Sem.run_pure, Result.andThen_ok, run_underlying ht, h0, h1, and_self, if_true, sizeOf, typeInfo, program, Sem.run, hinf, hs1, Nat.mul_one, part, hag, Bool.false_eq_true, if_false, hcell]
 simp only [execOp, F.ev hx, F.ev hi, Sem.run_bind, hrun, Result.andThen_ok, Sem.run_pure]
/-! ### Results that lie in memory -/
theorem fN {fn : Func} {p ty g : Nat} {D : TypeDesc} {cs : List Value} (hres : fn.results = #[.cell p ty]) (hl : look p e = some (.pointer (some ⟨g, 0, none⟩))) (hd : P.underlying ty = some D) (hf : cj D = false) (hi : (P.info? ty).map (·.size) = some cs.length) (hr : w.rangeAt g 0 cs) : ∀ a, Fr n a e → (results fn a.tmps).run P w = .ok (.agg cs.toArray) w := fun a F => by
 have h := run_loadVar_mid (P := P) w g 0 ty cs D hr hd (by cases D <;> simp [cj] at hf <;> simp) hi
 have hg : a.tmps[p]?.getD undef = .pointer (some ⟨g, 0, none⟩) := by have := F.get p _ hl; rwa [Array.getD_eq_getD_getElem?] at this
 simp [results, hres, hg, asAddr, h]
end
end Go.Gx
namespace Go.Gx
open Go.RowKit
abbrev hv (a : List UInt8) : Value := .agg (a.map u8v).toArray
section
variable {P : Program} {S : World → Prop} {n : Nat} {e : Env} {dst : Option Tmp} {rt : TypeId} {pos : String} {af : Array Edge} {gd : Option (Nat × Bool)}
def EqV (P : Program) (d : Nat) (t : TypeId) (x y : Value) (b : Bool) : Prop := ∀ w, (Op.equalIn d t x y).run P w = .ok b w
theorem oR {d : Nat} {t : TypeId} {k : IntKind} {X Y : Int} (ht : P.underlying t = some (.int k)) : EqV P (d + 1) t (.int k X) (.int k Y) (decide (X = Y)) := fun w => by
 rw [run_equalIn_int w d t k k _ _ ht]
 simp [BEq.beq]
theorem rW {d : Nat} {t : TypeId} {x y : Bool} (ht : P.underlying t = some .bool) : EqV P (d + 1) t (.bool x) (.bool y) (x == y) := fun w => by simp [Op.equalIn, run_underlying ht]
theorem ji {d : Nat} {t E : TypeId} {N : Nat} {a b : List UInt8} (ht : P.underlying t = some (.array N E)) (hE : P.underlying E = some (.int .u8)) (hsz : (P.info? E).map (·.size) = some 1) (ha : a.length = N) (hb : b.length = N) : EqV P (d + 2) t (hv a) (hv b) (a == b) := fun w => by
 obtain ⟨inf, hinf, hs1⟩ := Option.map_eq_some_iff.1 hsz
 exact run_equalIn_bytes w d t E N ht hE (fun w => by simp [sizeOf, typeInfo, program, Sem.run, hinf, hs1]) a b ha hb
theorem p_eqV {t t' : TypeId} {x y : Operand} {xs ys : Array Value} {b : Bool} (hg : P.eqGuardType P.depth t = false) (hx : ev e x = some (.agg xs)) (hy : ev e y = some (.agg ys)) (h : EqV P 10000 t (.agg xs) (.agg ys) b) : Pu P S n ⟨dst, .binOp .eql t x y t', rt, pos, af, gd⟩ e (.bool b) := fun a F w _ => by
 have h1 : (binOp .eql t (.agg xs) (.agg ys)).run P w = .ok (.bool b) w := by rw [run_eql_struct, h w]; rfl
 simp [execOp, F.ev hx, F.ev hy, run_eqGuard_agg w .eql t x y xs ys hg, h1]
theorem p_neV {t t' : TypeId} {x y : Operand} {xs ys : Array Value} {b : Bool} (hg : P.eqGuardType P.depth t = false) (hx : ev e x = some (.agg xs)) (hy : ev e y = some (.agg ys)) (h : EqV P 10000 t (.agg xs) (.agg ys) b) : Pu P S n ⟨dst, .binOp .neq t x y t', rt, pos, af, gd⟩ e (.bool (!b)) := fun a F w _ => by
 have h1 : (binOp .neq t (.agg xs) (.agg ys)).run P w = .ok (.bool (!b)) w := by rw [run_neq_struct, h w]; rfl
 simp [execOp, F.ev hx, F.ev hy, run_eqGuard_agg w .neq t x y xs ys hg, h1]
theorem rX {t t' E : TypeId} {N : Nat} {x y : Operand} {a b : List UInt8} (hg : P.eqGuardType P.depth t = false) (ht : P.underlying t = some (.array N E)) (hE : P.underlying E = some (.int .u8)) (hsz : (P.info? E).map (·.size) = some 1) (hx : ev e x = some (hv a)) (hy : ev e y = some (hv b)) (ha : a.length = N) (hb : b.length = N) : Pu P S n ⟨dst, .binOp .eql t x y t', rt, pos, af, gd⟩ e (.bool (a == b)) :=
 p_eqV hg hx hy (ji (d := 9998) ht hE hsz ha hb)
theorem p_neH {t t' E : TypeId} {N : Nat} {x y : Operand} {a b : List UInt8} (hg : P.eqGuardType P.depth t = false) (ht : P.underlying t = some (.array N E)) (hE : P.underlying E = some (.int .u8)) (hsz : (P.info? E).map (·.size) = some 1) (hx : ev e x = some (hv a)) (hy : ev e y = some (hv b)) (ha : a.length = N) (hb : b.length = N) : Pu P S n ⟨dst, .binOp .neq t x y t', rt, pos, af, gd⟩ e (.bool (!(a == b))) :=
 p_neV hg hx hy (ji (d := 9998) ht hE hsz ha hb)
end
/-! ### Structs and arrays, part by part -/
section
variable {P : Program}
theorem jR {w : World} {t : TypeId} {D : TypeDesc} {cs : Array Value} {o : Nat} {v : Value} (ht : P.underlying t = some D) (hf : cj D = true) (hv : cs[o]? = some v) : (part t cs o).run P w = .ok v w := by
 have ha : (isAgg t).run P w = .ok false w := by
  cases D <;> simp [cj] at hf <;> simp [isAgg, run_underlying ht]
 simp [part, ha, hv]
theorem kN {w : World} {t : TypeId} {D : TypeDesc} {cs : Array Value} {o m : Nat} (ht : P.underlying t = some D) (hf : cj D = false) (hi : (P.info? t).map (·.size) = some m) : (part t cs o).run P w = .ok (.agg (cs.extract o (o + m))) w := by
 obtain ⟨inf, hinf, rfl⟩ := Option.map_eq_some_iff.1 hi
 have ha : (isAgg t).run P w = .ok true w := by
  cases D <;> simp [cj] at hf <;> simp [isAgg, run_underlying ht]
 simp [part, ha, sizeOf, typeInfo, hinf]
def EqF (P : Program) (d : Nat) (xs ys : Array Value) (fs : List Field) (b : Bool) : Prop := ∀ w, (Op.eqFields d xs ys fs).run P w = .ok b w
theorem oS {d : Nat} {xs ys : Array Value} : EqF P d xs ys [] true := fun w => by simp [Op.eqFields]
theorem tK {d : Nat} {xs ys : Array Value} {f : Field} {fs : List Field} {x y : Value} {b c : Bool} (hn : (f.name != "_") = true) (hx : ∀ w, (part f.type xs f.offset).run P w = .ok x w) (hy : ∀ w, (part f.type ys f.offset).run P w = .ok y w) (h : EqV P d f.type x y b) (k : EqF P d xs ys fs c) : EqF P d xs ys (f :: fs) (b && c) := fun w => by
 have hn' : f.name ≠ "_" := by simpa using hn
 simp only [Op.eqFields, if_pos hn', Sem.run_bind, hx w, hy w, h w, Result.andThen_ok]
 cases b
 ·simp
 simp [k w]
theorem jj {d : Nat} {t : TypeId} {xs ys : Array Value} {fs : Array Field} {b : Bool} (ht : P.underlying t = some (.struct fs)) (hp : P.stoodInHeld t = false) (h : EqF P d xs ys fs.toList b) : EqV P (d + 1) t (.agg xs) (.agg ys) b := fun w => by
 have hfs : P.fieldsOf t = fs := by simp [Program.fieldsOf, ht]
 rw [run_equalIn_struct w d t xs ys (by rw [hfs]; exact ht) hp, hfs]
 exact h w
end
/-! ### Results, of whatever kinds -/
inductive ResIs (P : Program) (e : Env) (w : World) : List ResultVar → List Value → Prop
 | nil : ResIs P e w [] []
 | tmp {t : Nat} {v : Value} {rs : List ResultVar} {vs : List Value} (h : look t e = some v) (k : ResIs P e w rs vs) : ResIs P e w (.tmp t :: rs) (v :: vs)
 | cellA {p ty g o : Nat} {cs : List Value} {D : TypeDesc} {rs : List ResultVar} {vs : List Value} (hl : look p e = some (.pointer (some ⟨g, o, none⟩))) (hd : P.underlying ty = some D) (hf : cj D = false) (hi : (P.info? ty).map (·.size) = some cs.length) (hr : w.rangeAt g o cs) (k : ResIs P e w rs vs) : ResIs P e w (.cell p ty :: rs) (.agg cs.toArray :: vs)
 | cell1 {p ty : Nat} {A : Addr} {v : Value} {D : TypeDesc} {rs : List ResultVar} {vs : List Value} (hl : look p e = some (.pointer (some A))) (hd : P.underlying ty = some D) (hf : cj D = true) (hc : w.cell? A = some v) (k : ResIs P e w rs vs) : ResIs P e w (.cell p ty :: rs) (v :: vs)
theorem ResIs.run {P : Program} {e : Env} {w : World} {n : Nat} {a : Act} (F : Fr n a e) : ∀ {rs : List ResultVar} {vs : List Value}, ResIs P e w rs vs →
  (rs.mapM (fun r : ResultVar => (match r with | .tmp t => pure (a.tmps.getD t undef) | .cell p t => do loadVar t (← asAddr (a.tmps.getD p undef)) : Sem Value))).run P w = .ok vs w := by
 intro rs vs h
 induction h with
 | nil => simp
 | tmp h k ih => simp only [List.mapM_cons, Sem.run_bind, Sem.run_pure, Result.andThen_ok, F.get _ _ h, ih]
 | @cellA p ty g o cs D rs vs hl hd hf hi hr k ih =>
  have h := run_loadVar_mid (P := P) w g o ty cs D hr hd (by cases D <;> simp [cj] at hf <;> simp) hi
  have ha : ∀ A : Addr, (asAddr (.pointer (some A))).run P w = .ok A w := fun A => by simp [asAddr]
  simp only [List.mapM_cons, Sem.run_bind, Sem.run_pure, Result.andThen_ok, F.get _ _ hl, ha, h, ih]
 | @cell1 p ty A v D rs vs hl hd hf hc k ih =>
  have h := dU (P := P) hd hf hc
  have ha : ∀ A : Addr, (asAddr (.pointer (some A))).run P w = .ok A w := fun A => by simp [asAddr]
  simp only [List.mapM_cons, Sem.run_bind, Sem.run_pure, Result.andThen_ok, F.get _ _ hl, ha, h, ih]
theorem bd {P : Program} {e : Env} {w : World} {n : Nat} {fn : Func} {rs : List ResultVar} {vs : List Value} (hres : fn.results = rs.toArray) (h : ResIs P e w rs vs) (h1 : (vs.length == 1) = false) : ∀ a, Fr n a e → (results fn a.tmps).run P w = .ok (.tuple vs.toArray) w := fun a F => by
 have h2 := h.run F
 have h3 : ¬ vs.length = 1 := by simpa using h1
 unfold results
 rw [hres, List.mapM_toArray]
 simp only [Sem.run_bind, map_eq_pure_bind, Sem.run_pure]
 erw [h2]
 simp [Result.andThen_ok, h3]
theorem mf {l : List UInt8} {i : Nat} (h : i < l.length) : l[i]? = some (l.getD i 0) := by simp [List.getD, List.getElem?_eq_getElem h]
/-! ### Pointers and nil -/
section
variable {P : Program} {S : World → Prop} {n : Nat} {e : Env} {dst : Option Tmp} {rt : TypeId} {pos : String} {af : Array Edge} {gd : Option (Nat × Bool)}
theorem eI {w : World} {d : Nat} {t E : TypeId} {p : Option Addr} (ht : P.underlying t = some (.pointer E)) : (Op.equalIn (d + 1) t (.pointer p) (.pointer none)).run P w = .ok p.isNone w := by
 cases p <;> simp [Op.equalIn, run_underlying ht]
theorem rY {t t' E : TypeId} {x y : Operand} {p : Option Addr} (hx : ev e x = some (.pointer p)) (hy : ev e y = some (.pointer none)) (ht : P.underlying t = some (.pointer E)) : Pu P S n ⟨dst, .binOp .eql t x y t', rt, pos, af, gd⟩ e (.bool p.isNone) := fun a F w _ => by
 have h2 : (Op.equal t (.pointer p) (.pointer none)).run P w = .ok p.isNone w := eI (d := 9999) ht
 cases p <;> simp [execOp, F.ev hx, F.ev hy, binOp, eqGuard, h2]
theorem rZ {t t' E : TypeId} {x y : Operand} {p : Option Addr} (hx : ev e x = some (.pointer p)) (hy : ev e y = some (.pointer none)) (ht : P.underlying t = some (.pointer E)) : Pu P S n ⟨dst, .binOp .neq t x y t', rt, pos, af, gd⟩ e (.bool (!p.isNone)) := fun a F w _ => by
 have h2 : (Op.equal t (.pointer p) (.pointer none)).run P w = .ok p.isNone w := eI (d := 9999) ht
 cases p <;> simp [execOp, F.ev hx, F.ev hy, binOp, eqGuard, h2]
end
/-! ### Slices of slices of bytes -/
abbrev SD := Option Addr × Nat × Nat
abbrev sdv (q : SD) : Value := .slice q.1 q.2.1 q.2.2
structure SB (w : World) (F : Nat → Prop) (A : Option Addr) (l c : Nat) (bs : List (List UInt8)) : Prop where
 ex : ∃ qs : List SD, Sl w F sdv A l c qs ∧ ∀ i, i < l → Sl w F u8v (qs.getD i (none, 0, 0)).1 (qs.getD i (none, 0, 0)).2.1 (qs.getD i (none, 0, 0)).2.2 (bs.getD i [])
 len : bs.length = l
section
variable {w w' : World} {T F G : Nat → Prop} {A : Option Addr} {l c : Nat} {bs : List (List UInt8)}
theorem SB.cap (h : SB w F A l c bs) : l ≤ c := by obtain ⟨qs, h1, _⟩ := h.ex; exact h1.cap
theorem SB.ch (h : SB w F A l c bs) (k : Ch T w w') (hn : ∀ i, F i → ¬ T i) : SB w' F A l c bs := by
 obtain ⟨⟨qs, h1, h2⟩, hl⟩ := h; exact ⟨⟨qs, h1.ch k hn, fun i hi => (h2 i hi).ch k hn⟩, hl⟩
theorem SB.no (h : SB w F A l c bs) (k : Ch No w w') : SB w' F A l c bs := h.ch k (fun _ _ h => h)
theorem SB.mono (h : SB w F A l c bs) (hF : ∀ k, k < w.heap.size → F k → G k) : SB w G A l c bs := by
 obtain ⟨⟨qs, h1, h2⟩, hl⟩ := h; exact ⟨⟨qs, h1.mono hF, fun i hi => (h2 i hi).mono hF⟩, hl⟩
theorem SB.old (h : SB w F A l c bs) : SB w (fun k => k < w.heap.size) A l c bs := h.mono fun _ h _ => h
theorem SB.chT (h : SB w F A l c bs) (k : Ch T w w') (hn : ∀ i, i < w.heap.size → F i → ¬ T i) : SB w' (fun i => F i ∧ i < w.heap.size) A l c bs := (h.mono (G := fun i => F i ∧ i < w.heap.size) (fun i hi hF => ⟨hF, hi⟩)).ch k (fun i hF => hn i hF.2 hF.1)
theorem SB.opn (h : SB w F A l c bs) (h0 : 0 < l) : ∃ b o, A = some ⟨b, o, none⟩ ∧ F b ∧ ∀ j, j < l → ∃ A' l' c', w.cell? ⟨b, o + j, none⟩ = some (.slice A' l' c') ∧ Sl w F u8v A' l' c' (bs.getD j []) := by
 obtain ⟨⟨qs, h1, h2⟩, hl⟩ := h
 obtain ⟨b, o, hA, hF, hc⟩ := h1.opn (d := (none, 0, 0)) h0
 exact ⟨b, o, hA, hF, fun j hj => ⟨_, _, _, hc j hj, h2 j hj⟩⟩
theorem SB.lit {E : TypeId} {g : Nat} {qs : List SD} (h : Blk w g E (qs.map sdv).toArray) (hF : F g) (hl : bs.length = qs.length) (hs : ∀ i, i < qs.length → Sl w F u8v (qs.getD i (none, 0, 0)).1 (qs.getD i (none, 0, 0)).2.1 (qs.getD i (none, 0, 0)).2.2 (bs.getD i [])) : SB w F (some ⟨g, 0, none⟩) qs.length qs.length bs :=
 ⟨⟨qs, (Sl.lit h rfl rfl).mono (fun k _ hk => hk ▸ hF), hs⟩, hl⟩
theorem SB.nil : SB w F (none : Option Addr) 0 0 [] := ⟨⟨[], .nil, fun i hi => by omega⟩, rfl⟩
end
theorem mh {q : List (List UInt8)} {i : Nat} (h : i < q.length) : (q.take i).flatten ++ q.getD i [] = (q.take (i + 1)).flatten := by
 rw [List.take_succ_eq_append_getElem h, List.flatten_append]; simp [List.getD, List.getElem?_eq_getElem h]
theorem jW {P : Program} {S : World → Prop} {n : Nat} {e : Env} {dst : Option Tmp} {rt : TypeId} {pos : String} {af : Array Edge} {gd : Option (Nat × Bool)} {t E : TypeId} {x : Operand} {b o N : Nat} (ht : P.underlying t = some (.array (N + 1) E)) (hsz : (P.info? E).map (·.size) = some 1) (hx : ev e x = some (.pointer (some ⟨b, o, none⟩))) :
  Pu P S n ⟨dst, .slice t x none none none, rt, pos, af, gd⟩ e (.slice (some ⟨b, o, none⟩) (N + 1) (N + 1)) := by
 have := oP (S := S) (n := n) (e := e) (dst := dst) (rt := rt) (pos := pos) (af := af) (gd := gd) (lo := none) (hi := none) (l := 0) (h := N + 1) ht hsz hx rfl rfl (by omega) (Nat.le_refl _)
 rwa [if_neg (by omega), Nat.zero_mul, Nat.add_zero, Nat.sub_zero] at this
theorem Sl.whole {α : Type} {f : α → Value} {L : List α} {w : World} {g : Nat} {t : TypeId} {N : Nat} (h : Blk w g t (L.map f).toArray) (hN : L.length = N) : Sl w (fun k => k = g) f (some ⟨g, 0, none⟩) N N L := Sl.lit h rfl hN
theorem SB.of {w : World} {E : TypeId} {g : Nat} {qs : List SD} {bs : List (List UInt8)} (h : Blk w g E (qs.map sdv).toArray) (hl : bs.length = qs.length) (hs : ∀ i, i < qs.length → ∃ F, Sl w F u8v (qs.getD i (none, 0, 0)).1 (qs.getD i (none, 0, 0)).2.1 (qs.getD i (none, 0, 0)).2.2 (bs.getD i [])) : SB w (fun k => k < w.heap.size) (some ⟨g, 0, none⟩) qs.length qs.length bs :=
 ⟨⟨qs, (Sl.lit h rfl rfl).old, fun i hi => by obtain ⟨F, h1⟩ := hs i hi; exact h1.old⟩, hl⟩
theorem SB.lit1 {w : World} {E : TypeId} {g : Nat} {A : Option Addr} {l c : Nat} {x : List UInt8} {F : Nat → Prop} (h : Blk w g E #[.slice A l c]) (h1 : Sl w F u8v A l c x) : SB w (fun k => k < w.heap.size) (some ⟨g, 0, none⟩) 1 1 [x] :=
 SB.of (qs := [(A, l, c)]) h rfl (fun i hi => match i, hi with | 0, _ => ⟨_, h1⟩)
theorem SB.lit2 {w : World} {E : TypeId} {g : Nat} {A B : Option Addr} {l c l' c' : Nat} {x y : List UInt8} {F G : Nat → Prop} (h : Blk w g E #[.slice A l c, .slice B l' c']) (h1 : Sl w F u8v A l c x) (h2 : Sl w G u8v B l' c' y) : SB w (fun k => k < w.heap.size) (some ⟨g, 0, none⟩) 2 2 [x, y] :=
 SB.of (qs := [(A, l, c), (B, l', c')]) h rfl (fun i hi => match i, hi with | 0, _ => ⟨_, h1⟩ | 1, _ => ⟨_, h2⟩)
theorem r4 (q : List (List UInt8)) (i : Nat) : (q.take i).flatten.length ≤ q.flatten.length := by
 have h := congrArg List.length (congrArg List.flatten (List.take_append_drop i q))
 rw [List.flatten_append, List.length_append] at h
 omega
end Go.Gx
namespace Go.Gx
open Go.RowKit
section
variable {P : Program} {ops : Array Oper} {Q : Exit → Act → World → Prop} {n : Nat} {e : Env} {w : World}
def oT (Φ : Nat → Value → World → Prop) (dst : Nat → Nat) (w1 : World) : List Nat → Env → (Env → Prop) → Prop
 | [], env, K => K env
 | j :: r, env, K => ∀ v, Φ j v w1 → oT Φ dst w1 r ((dst j, v) :: env) K
def AnyOp (P : Program) (ops : Array Oper) (Q : Exit → Act → World → Prop) (n : Nat) (e : Env) (w : World) (Φ : Nat → Value → World → Prop) (dst : Nat → Nat) (deps : Nat → List Nat) (i : Nat) (o : Oper) : Prop :=
 ∀ w1, Ch No w w1 → oT Φ dst w1 (deps i) e (fun env => (∀ a, Fr n a env → Region.wanted o (yielded ops a.tmps) = true) ∧ OpE P n o env w1 Q (fun e' w2 => Ch No w1 w2 ∧ ∃ v, look (dst i) e' = some v ∧ Φ i v w2))
def AllAny (P : Program) (ops : Array Oper) (Q : Exit → Act → World → Prop) (n : Nat) (e : Env) (w : World) (Φ : Nat → Value → World → Prop) (dst : Nat → Nat) (deps : Nat → List Nat) : Nat → List Oper → Prop
 | _, [] => True
 | i, o :: r => AnyOp P ops Q n e w Φ dst deps i o ∧ AllAny P ops Q n e w Φ dst deps (i + 1) r
theorem AllAny.at_ {Φ : Nat → Value → World → Prop} {dst : Nat → Nat} {deps : Nat → List Nat} : ∀ {l : List Oper} {k : Nat}, AllAny P ops Q n e w Φ dst deps k l → ∀ {i : Nat} {o : Oper}, l[i]? = some o → AnyOp P ops Q n e w Φ dst deps (k + i) o
 | [], _, _, i, o, h => by simp at h
 | x :: r, k, hA, 0, o, h => by simp at h; subst h; exact hA.1
 | x :: r, k, hA, i + 1, o, h => by
  have := AllAny.at_ hA.2 (i := i) (o := o) (by simpa using h)
  rwa [show k + 1 + i = k + (i + 1) by omega] at this
structure AnyInv (ops : Array Oper) (n : Nat) (e : Env) (w : World) (Φ : Nat → Value → World → Prop) (dst : Nat → Nat) (listed : Array Bool) (a : Act) (w1 : World) : Prop where
 fr : Fr n a e
 ch : Ch No w w1
 done : ∀ i, i < ops.size → listed.getD i false = true → Φ i (a.tmps.getD (dst i) undef) w1
end
end Go.Gx
namespace Go.Gx
open Go.RowKit
theorem zc_u8 (m : Nat) : Builtin.zeroCells (Value.int IntKind.u8 0).cells m = (List.replicate m (Value.int IntKind.u8 0)).toArray := by
 apply Array.toList_inj.1
 have e : (Value.int IntKind.u8 0).cells = #[Value.int IntKind.u8 0] := rfl
 have h1 : (#[Value.int IntKind.u8 0] : Array Value).size = 1 := rfl
 rw [e]
 unfold Builtin.zeroCells
 rw [h1, Nat.mul_one, Array.toList_map, Array.toList_range, List.toList_toArray]
 have h2 : (fun i => (#[Value.int IntKind.u8 0] : Array Value)[i % 1]!) = fun _ : Nat => Value.int IntKind.u8 0 := by
  funext i
  rw [Nat.mod_one]
  rfl
 rw [h2]
 induction m with
 | zero => rfl
 | succ m ih => rw [List.range_succ, List.map_append, ih, List.map_cons, List.map_nil, List.replicate_succ']
section
variable {P : Program} {Q : Exit → Act → World → Prop} {n : Nat} {e : Env} {w : World} {K : Env → World → Prop} {d : Nat} {rt : TypeId} {pos : String} {af : Array Edge} {gd : Option (Nat × Bool)}
theorem e_appZ {t u E : TypeId} {kn kq : IntKind} {s x : Operand} {v : Value} {l m : Nat} {xs : List Value} {F : Nat → Prop} (hlt : Nat.blt d n = true) (ht : ElT P t E 1 1) (hz : (P.info? E).map (·.zero) = some (some (.int .u8 0))) (hu : P.underlying u = some (.int kn)) (hs : ev e s = some v) (hx : ev e x = some (.int kq (m : Int))) (R : Row w F E 1 v l xs) (h0 : 0 < l)
  (hb : l + m ≤ 140737488355328) (hF : ∀ k, w.heap.size ≤ k → F k)
  (k : ∀ w' v', Row w' F E 1 v' (l + m) (xs ++ List.replicate m (.int .u8 0)) → Ch F w w' → K ((d, v') :: e) w') : OpE P n ⟨some d, .call { callee := .builtin .append, args := #[s, x], argTypes := #[t, u] }, rt, pos, af, gd⟩ e w Q K := by
 obtain ⟨i, z, hi, hz', hsize, hby, hzs⟩ := ht.info
 have hz2 : i.zero = some (.int .u8 0) := by rw [hi] at hz; simpa using hz
 have hxl : xs.length = l := by simpa using R.own.1
 have hw : IntKind.i64.wrap (m : Int) = m := by rw [IntKind.wrap_i64]; omega
 have hrun : ∃ v' w', (Builtin.append_ #[t, u] rt #[v, .int kq (m : Int)]).run P w = .ok v' w' ∧ Row w' F E 1 v' (l + m) (xs ++ List.replicate m (.int .u8 0)) ∧ Ch F w w' := by
  rcases R.own.2 with ⟨rfl, rfl⟩ | ⟨g, cap, cur, rfl, _, hg, hnc, hcm, hcs, htake⟩
  ·omega
  have hcs' : cur.size = cap := by simpa using hcs
  have htk : cur.toList.take l = xs := by simpa using htake
  have hFg : F g := R.at_ g rfl
  by_cases hroom : l + m ≤ cap
  ·have hst := run_storeCells_at P g l E (List.replicate m (Value.int IntKind.u8 0)) 0 cur w hg (by rw [List.length_replicate]; omega) (fun u hu => by rw [List.eq_of_mem_replicate hu]; rfl)
   simp only [Nat.add_zero, List.length_replicate] at hst
   have hneg : ¬ ((m : Int) < 0) := by omega
   have h48 : ¬ (281474976710656 < (m : Int)) := by omega
   refine ⟨.slice (some ⟨g, 0, none⟩) (l + m) cap, w.setRow g (cur.toList.take l ++ List.replicate m (Value.int .u8 0) ++ cur.toList.drop (l + m)).toArray, ?_, ?_, ?_⟩
   ·by_cases hm : m = 0
    ·subst hm
     simp at hst
     have hw0 : IntKind.i64.wrap 0 = 0 := by rw [IntKind.wrap_i64]; rfl
     have hn1 : ¬ ((281474976710656 : Int) < 0) := by omega
     simp [Builtin.append_, run_underlying ht.under, run_underlying hu, sizeOf, typeInfo, zeroValue, hi, hsize, hby, hz2, asInt, asIntOf, hw0, hn1, hnc, hst, Addr.add_lit]
    simp [Builtin.append_, run_underlying ht.under, run_underlying hu, sizeOf, typeInfo, zeroValue, hi, hsize, hby, hz2, asInt, asIntOf, hw, hneg, h48, hm, hroom, zc_u8, hst, Addr.add_lit]
   ·refine ⟨⟨by rw [List.length_append, List.length_replicate, hxl, Nat.mul_one], .inr ⟨g, cap, _, rfl, Nat.zero_le _, setRow_heap w g cur _ E _ hg, hroom, hcm, ?_, ?_⟩⟩, fun k hk => R.at_ k hk⟩
    ·simp only [List.size_toArray, List.length_append, List.length_take, List.length_drop, Array.length_toList, List.length_replicate]
     omega
    rw [htk, Nat.mul_one]
    exact List.take_left' (by rw [List.length_append, List.length_replicate, hxl])
   exact Ch.of_grown (row := some g) ⟨rfl, rfl, rfl, by simp, fun k hk hne => setRow_other w g k _ (fun e => hne (by rw [e]))⟩ (fun k hk => by cases hk; exact hFg)
  have holds : ∀ j u, xs[j]? = some u → w.drew.cell? ((⟨g, 0, none⟩ : Addr).add j) = some u := fun j u hj => by simpa using R.own.cells (g := g) rfl j u hj
  have hold := run_firstCells_some (P := P) w.drew i.size l ⟨g, 0, none⟩ l cap xs (by rw [hsize]; simpa using hxl) holds
  have hr := Lib.run_append_grow_zeros (P := P) w t u rt E i (.int .u8 0) kq kn ht.under hu hi hz2 (some ⟨g, 0, none⟩) l cap xs hold m (by omega) (by omega) (by omega) (by omega) (by rw [hby]; omega) (by rw [hby]; exact growslice_fits (by omega) (by omega))
  refine ⟨_, _, hr, ?_, ?_⟩
  ·have hge := grownCap_ge w (l + m) cap E
   have hcm2 : grownCap w (l + m) cap E ≤ maxLen := grownCap_le_maxLen w (l + m) cap E (by unfold maxLen; omega)
   refine ⟨⟨by rw [List.length_append, List.length_replicate, hxl, Nat.mul_one], .inr ⟨w.heap.size, _, _, rfl, Nat.zero_le _, heap_alloc_new w.drew _, hge, hcm2, ?_, ?_⟩⟩, fun k hk => by cases hk; exact hF _ (Nat.le_refl _)⟩
   ·have hz1 : (Value.int IntKind.u8 0).cells.size = 1 := rfl
    simp only [Array.size_append, List.size_toArray, size_zeroCells, hz1, hxl]
    omega
   rw [zc_u8]
   simp only [Array.toList_append, Nat.mul_one]
   exact List.take_left' (by rw [List.length_append, List.length_replicate, hxl])
  exact Ch.of_grown (row := some g) ⟨rfl, rfl, rfl, by simp, fun k hk _ => heap_alloc_old w.drew _ hk⟩ (fun k hk => by cases hk; exact hFg)
 obtain ⟨v', w', hr, h2, h3⟩ := hrun
 refine bl rfl hlt (fun a Fr => ?_) (k w' v' h2 h3)
 simp [execOp, resolve, invoke, builtin, Fr.ev hs, Fr.ev hx, hr]
end
section
variable {P : Program} {S : World → Prop} {n : Nat} {e : Env} {dst : Option Tmp} {rt : TypeId} {pos : String} {af : Array Edge} {gd : Option (Nat × Bool)}
theorem p_s2a {t E : TypeId} {N l c : Nat} {A : Option Addr} {x : Operand} (ht : P.underlying t = some (.array N E)) (hx : ev e x = some (.slice A l c)) (hl : N ≤ l) : Pu P S n ⟨dst, .sliceToArrayPointer t x, rt, pos, af, gd⟩ e (.pointer A) := fun a F w _ => by
 have h : ¬ l < N := by omega
 simp [execOp, F.ev hx, Instr.arrayAt, run_underlying ht, h]
theorem Sl.range {w : World} {F : Nat → Prop} {b o l c : Nat} {xs : List UInt8} (h : Sl w F u8v (some ⟨b, o, none⟩) l c xs) : w.rangeAt b o (xs.map u8v) := fun j v hv => by
 rcases h.rd with h1 | ⟨b', o', h1, _, h2⟩
 ·rw [h1] at hv; simp at hv
 cases h1; exact h2 j v hv
end
section
variable {P : Program} {Q : Exit → Act → World → Prop} {n : Nat} {e : Env} {w : World} {K : Env → World → Prop} {rt : TypeId} {pos : String} {af : Array Edge} {gd : Option (Nat × Bool)}
end
end Go.Gx
namespace Go.Gx
open Go.RowKit
def hx (L : List UInt8) : List Value := (List.range 32).map (fun i => u8v (L.getD i 0))
theorem cW {L : List UInt8} (h : L.length = 32) : L.map u8v = hx L := by
 apply List.ext_getElem?
 intro i
 unfold hx
 rw [List.getElem?_map, List.getElem?_map]
 by_cases hi : i < 32
 ·rw [List.getElem?_range hi, List.getElem?_eq_getElem (by omega)]
  simp [List.getD, List.getElem?_eq_getElem (show i < L.length by omega)]
 rw [List.getElem?_eq_none (by omega), List.getElem?_eq_none (by simp; omega)]; rfl
theorem oneA {p q : List Value} (hp : ∀ u ∈ p, u.oneCell' = true) (hq : ∀ u ∈ q, u.oneCell' = true) : ∀ u ∈ p ++ q, u.oneCell' = true := fun u hu => (List.mem_append.1 hu).elim (hp u) (hq u)
section
variable {w : World} {g o : Nat} {t : TypeId} {cs p q r : List Value} {v : Value}
theorem iQ (h : Blk w g t cs.toArray) (he : cs = p ++ v :: r) (hp : p.length = o) : w.cell? ⟨g, o, none⟩ = some v := by
 subst he
 refine h.cell ?_
 rw [List.getElem?_toArray, List.getElem?_append_right (by omega), hp, Nat.sub_self]
 rfl
theorem bR (h : Blk w g t cs.toArray) (he : cs = p ++ (q ++ r)) (hp : p.length = o) : w.rangeAt g o q := by
 subst he
 refine tI h ?_
 rw [List.toList_toArray, ← hp, List.drop_left, List.take_left]
end
section
variable {P : Program} {Q : Exit → Act → World → Prop} {n : Nat} {e : Env} {w : World} {K : Env → World → Prop} {rt : TypeId} {pos : String} {af : Array Edge} {gd : Option (Nat × Bool)}
theorem e_stC {t : TypeId} {a b : Operand} {g o : Nat} {E : TypeId} {cs p r : List Value} {u v : Value} (hi : (P.info? t).map (·.size) = some 1) (h1 : v.oneCell' = true) (hx : ev e a = some (.pointer (some ⟨g, o, none⟩))) (hy : ev e b = some v) (hb : Blk w g E cs.toArray) (he : cs = p ++ u :: r) (hp : p.length = o)
  (k : ∀ w', Blk w' g E (p ++ v :: r).toArray → Ch (fun k => k = g) w w' → w'.heap.size = w.heap.size → K e w') : OpE P n ⟨none, .store t a b, rt, pos, af, gd⟩ e w Q K := by
 subst he
 refine qr hi h1 hx hy hb (by simp; omega) (fun w' h => k w' ?_)
 have : (p ++ u :: r).toArray.setIfInBounds o v = (p ++ v :: r).toArray := by
  apply Array.toList_inj.1
  rw [Array.toList_setIfInBounds, List.toList_toArray, ← hp, List.set_append_right _ _ (Nat.le_refl _), Nat.sub_self]
  rfl
 rw [this] at h
 exact h
end
section
variable {P : Program} {S : World → Prop} {n : Nat} {e : Env} {dst : Option Tmp} {rt : TypeId} {pos : String} {af : Array Edge} {gd : Option (Nat × Bool)}
theorem dj {t : TypeId} {parts : Array (Nat × Operand)} {vs vs' : List Value} {cs cs' : List Value} (hvs : evs e (parts.toList.map (·.2)) = some vs) (hv : vs = vs') (hc : cs = cs') (hr : ∀ w, (Instr.build t ((parts.toList.map (·.1)).zip vs').toArray).run P w = .ok (.agg cs'.toArray) w) : Pu P S n ⟨dst, .build t parts, rt, pos, af, gd⟩ e (.agg cs.toArray) := by
 subst hv; subst hc
 exact bI hvs hr
end
end Go.Gx
namespace Go.Gx
open Go.RowKit
structure Enc (α : Type) where
 n : Nat
 pos : 0 < n
 f : α → List Value
 ok : α → Prop
 len : ∀ x, ok x → (f x).length = n
 one : ∀ x, ∀ v ∈ f x, v.oneCell' = true
structure SI {α : Type} (w : World) (F : Nat → Prop) (E : Enc α) (A : Option Addr) (l c : Nat) (xs : List α) : Prop where
 rd : Rd w F A (xs.flatMap E.f)
 len : xs.length = l
 cap : l ≤ c
 ok : ∀ x ∈ xs, E.ok x
section
variable {α : Type} {E : Enc α} {xs ys : List α}
theorem tB : ∀ {xs : List α}, (∀ x ∈ xs, E.ok x) → (xs.flatMap E.f).length = xs.length * E.n
 | [], _ => by simp
 | x :: r, h => by
  rw [List.flatMap_cons, List.length_append, E.len x (h x (by simp)), tB (fun y hy => h y (by simp [hy])), List.length_cons, Nat.succ_mul, Nat.add_comm]
theorem gV : ∀ {xs : List α} {i : Nat}, (∀ x ∈ xs, E.ok x) → (xs.flatMap E.f).drop (i * E.n) = (xs.drop i).flatMap E.f
 | xs, 0, _ => by simp
 | [], i + 1, _ => by simp
 | x :: r, i + 1, h => by
  rw [List.flatMap_cons, Nat.succ_mul, Nat.add_comm, ← E.len x (h x (by simp)), List.drop_length_add_append, E.len x (h x (by simp)), gV (fun y hy => h y (by simp [hy]))]
  rfl
theorem fp : ∀ {xs : List α} {i : Nat}, (∀ x ∈ xs, E.ok x) → (xs.flatMap E.f).take (i * E.n) = (xs.take i).flatMap E.f
 | xs, 0, _ => by simp
 | [], i + 1, _ => by simp
 | x :: r, i + 1, h => by
  rw [List.flatMap_cons, Nat.succ_mul, Nat.add_comm, ← E.len x (h x (by simp)), List.take_length_add_append, E.len x (h x (by simp)), fp (fun y hy => h y (by simp [hy]))]
  rfl
theorem r5 : ∀ u ∈ xs.flatMap E.f, u.oneCell' = true := fun u hu => by
 obtain ⟨x, _, h⟩ := List.mem_flatMap.1 hu
 exact E.one x u h
variable {w w' : World} {T F G : Nat → Prop} {A : Option Addr} {l c : Nat}
theorem SI.ch (h : SI w F E A l c xs) (k : Ch T w w') (hn : ∀ i, F i → ¬ T i) : SI w' F E A l c xs := ⟨h.rd.ch k hn, h.len, h.cap, h.ok⟩
theorem SI.no (h : SI w F E A l c xs) (k : Ch No w w') : SI w' F E A l c xs := h.ch k (fun _ _ h => h)
theorem SI.mono (h : SI w F E A l c xs) (hF : ∀ k, k < w.heap.size → F k → G k) : SI w G E A l c xs := ⟨h.rd.mono hF, h.len, h.cap, h.ok⟩
theorem SI.chT (h : SI w F E A l c xs) (k : Ch T w w') (hn : ∀ i, i < w.heap.size → F i → ¬ T i) : SI w' (fun i => F i ∧ i < w.heap.size) E A l c xs := (h.mono (G := fun i => F i ∧ i < w.heap.size) (fun i hi hF => ⟨hF, hi⟩)).ch k (fun i hF => hn i hF.2 hF.1)
theorem SI.old (h : SI w F E A l c xs) : SI w (fun k => k < w.heap.size) E A l c xs := h.mono fun _ h _ => h
theorem SI.nil : SI w F E (none : Option Addr) 0 0 [] := ⟨.nil, rfl, Nat.le_refl _, by simp⟩
theorem SI.opn (h : SI w F E A l c xs) {d : α} {i : Nat} (hi : i < l) : ∃ b o, A = some ⟨b, o, none⟩ ∧ F b ∧ w.rangeAt b (o + i * E.n) (E.f (xs.getD i d)) := by
 have hil : i < xs.length := by rw [h.len]; exact hi
 have hx : xs.getD i d = xs[i] := by simp [List.getD, List.getElem?_eq_getElem hil]
 have hlx := E.len xs[i] (h.ok _ (List.getElem_mem hil))
 rcases h.rd with h1 | ⟨b, o, hA, hF, hc⟩
 ·have h3 := List.flatMap_eq_nil_iff.1 h1 xs[i] (List.getElem_mem hil)
  rw [h3] at hlx
  have := E.pos
  simp at hlx; omega
 refine ⟨b, o, hA, hF, fun j v hv => ?_⟩
 rw [hx] at hv
 rw [Nat.add_assoc]
 refine hc _ v ?_
 have hj : j < E.n := by
  have := (List.getElem?_eq_some_iff.1 hv).1
  rwa [hlx] at this
 have h4 : ((xs.flatMap E.f).drop (i * E.n))[j]? = some v := by
  rw [gV h.ok, List.drop_eq_getElem_cons hil, List.flatMap_cons, List.getElem?_append_left (by rw [hlx]; exact hj)]
  exact hv
 rwa [List.getElem?_drop] at h4
theorem SI.none_len (h : SI w F E none l c xs) : l = 0 ∧ xs = [] := by
 rcases Nat.eq_zero_or_pos l with h0 | h0
 ·exact ⟨h0, List.eq_nil_of_length_eq_zero (h.len.trans h0)⟩
 rcases xs with _ | ⟨x, r⟩
 ·exact ⟨h.len.symm, rfl⟩
 obtain ⟨b, o, hA, _⟩ := h.opn (d := x) h0
 cases hA
theorem SI.cut (h : SI w F E A l c xs) {lo hi q : Nat} (h1 : lo ≤ hi) (h2 : hi ≤ l) (hq : hi - lo = q := by rfl) : SI w F E (cN A c lo E.n) q (c - lo) ((xs.drop lo).take q) := by
 subst hq
 have hl := h.len; have hc := h.cap
 refine ⟨?_, by rw [List.length_take, List.length_drop]; omega, by omega, fun x hx => h.ok x (List.mem_of_mem_drop (List.mem_of_mem_take hx))⟩
 have := (h.rd.cut (c := c) (l := lo) (sz := E.n) (by rw [tB h.ok, hl]; exact Nat.mul_le_mul_right _ hc)).take ((hi - lo) * E.n)
 rwa [gV h.ok, fp (fun x hx => h.ok x (List.mem_of_mem_drop hx))] at this
theorem SI.cutTo (h : SI w F E A l c xs) {lo : Nat} (h1 : lo ≤ l) : SI w F E (cN A c lo E.n) (l - lo) (c - lo) (xs.drop lo) := by
 have := h.cut (lo := lo) (hi := l) h1 (Nat.le_refl _)
 rwa [List.take_of_length_le (by rw [List.length_drop, h.len]; exact Nat.le_refl _)] at this
theorem SI.head (h : SI w F E A l c xs) {hi : Nat} (h2 : hi ≤ l) : SI w F E A hi c (xs.take hi) := by
 refine ⟨?_, by rw [List.length_take, h.len]; omega, by have := h.cap; omega, fun x hx => h.ok x (List.mem_of_mem_take hx)⟩
 have := h.rd.take (hi * E.n)
 rwa [fp h.ok] at this
theorem SI.one {g : Nat} {t : TypeId} {x : α} {cs : Array Value} (hb : Blk w g t cs) (hc : cs.toList = E.f x) (hx : E.ok x) : SI w (fun k => k = g) E (some ⟨g, 0, none⟩) 1 1 [x] := by
 refine ⟨?_, rfl, Nat.le_refl _, by simpa using hx⟩
 have := Rd.of_lit hb
 rwa [hc, show E.f x = [x].flatMap E.f by simp] at this
structure RI {α : Type} (w : World) (F : Nat → Prop) (t : TypeId) (E : Enc α) (A : Option Addr) (l c : Nat) (xs : List α) : Prop where
 row : Row w F t E.n (.slice A l c) l (xs.flatMap E.f)
 ok : ∀ x ∈ xs, E.ok x
section
variable {t : TypeId}
theorem RI.nil (w : World) (F : Nat → Prop) (t : TypeId) (E : Enc α) : RI w F t E none 0 0 [] := ⟨Row.nil w F t E.n, by simp⟩
theorem RI.len (h : RI w F t E A l c xs) : xs.length = l := by
 have h1 := h.row.len
 rw [tB h.ok] at h1
 exact Nat.eq_of_mul_eq_mul_right E.pos h1
theorem RI.si (h : RI w F t E A l c xs) : SI w F E A l c xs := ⟨h.row.rd, h.len, h.row.cap_, h.ok⟩
theorem RI.mono (h : RI w F t E A l c xs) (hF : ∀ k, k < w.heap.size → F k → G k) : RI w G t E A l c xs := ⟨h.row.mono hF, h.ok⟩
theorem RI.ch (h : RI w F t E A l c xs) (k : Ch T w w') (hn : ∀ k, k < w.heap.size → F k → ¬ T k) : RI w' F t E A l c xs := ⟨h.row.ch k hn, h.ok⟩
theorem RI.no (h : RI w F t E A l c xs) (k : Ch No w w') : RI w' F t E A l c xs := ⟨h.row.no k, h.ok⟩
theorem RI.after (h : RI w F t E A l c xs) (k : Ch No w w') : RI w' (fun i => F i ∧ (i < w.heap.size ∨ w'.heap.size ≤ i)) t E A l c xs := ⟨h.row.after k, h.ok⟩
theorem RI.afterT (h : RI w F t E A l c xs) (k : Ch T w w') (hn : ∀ i, i < w.heap.size → F i → ¬ T i) : RI w' (fun i => F i ∧ (i < w.heap.size ∨ w'.heap.size ≤ i)) t E A l c xs := ⟨h.row.afterT k hn, h.ok⟩
theorem RI.ty (h : RI w F t E A l c xs) (k : Ch T w w') {N : TypeId} (hN : N ≠ t) (hT : ∀ i, T i → ∃ cs, Blk w i N cs) : RI w' F t E A l c xs := by
 obtain ⟨⟨⟨h1, h2⟩, h3⟩, h4⟩ := h
 refine ⟨⟨⟨h1, ?_⟩, h3⟩, h4⟩
 rcases h2 with h2 | ⟨g, cap, cur, e, hb, hg, r⟩
 ·exact .inl h2
 have hlt : g < w.heap.size := Blk.lt (t := t) hg
 refine .inr ⟨g, cap, cur, e, hb, (k.block g hlt (fun ht => ?_)).trans hg, r⟩
 obtain ⟨cs, hcs⟩ := hT g ht
 have h5 := hcs.symm.trans hg
 injection h5 with h5
 injection h5 with _ h5
 exact hN h5
end
end
section
variable {P : Program} {Q : Exit → Act → World → Prop} {n d : Nat} {e : Env} {w : World} {K : Env → World → Prop} {rt : TypeId} {pos : String} {af : Array Edge} {gd : Option (Nat × Bool)}
theorem eW {α : Type} {E : Enc α} {t u : TypeId} {a b : Operand} {by_ : Nat} {A B : Option Addr} {l m c c' : Nat} {ys xs : List α} {F Fx : Nat → Prop} (hlt : Nat.blt d n = true) (ht : ElT P t u E.n by_) (hs : ev e a = some (.slice B l c')) (hx : ev e b = some (.slice A m c)) (R : RI w F u E B l c' ys) (X : SI w Fx E A m c xs)
  (hb : (l + m) * by_ ≤ 140737488355328) (hF : ∀ k, w.heap.size ≤ k → F k)
  (k : ∀ w' A' c', RI w' F u E A' (l + m) c' (ys ++ xs) → Ch F w w' → K ((d, .slice A' (l + m) c') :: e) w') (h63 : l + m ≤ maxLen := by unfold maxLen; omega) : OpE P n ⟨some d, .call { callee := .builtin .append, args := #[a, b], argTypes := #[t, t] }, rt, pos, af, gd⟩ e w Q K :=
 rR hlt ht hs hx R.row X.rd (by rw [tB X.ok, X.len]) r5 hb h63 hF (fun w' v' h c => by
  obtain ⟨A', c', rfl⟩ := h.shape
  exact k w' A' c' ⟨by rw [List.flatMap_append]; exact h, fun x hx => (List.mem_append.1 hx).elim (R.ok x) (X.ok x)⟩ c)
end
section
variable {P : Program} {Q : Exit → Act → World → Prop} {n d : Nat} {e : Env} {w : World} {K : Env → World → Prop} {rt : TypeId} {pos : String} {af : Array Edge} {gd : Option (Nat × Bool)}
theorem kO {t E : TypeId} {parts : Array (Nat × Operand)} {cs cs' : List Value} (hlt : Nat.blt d n = true) (hvs : evs e (parts.toList.map (·.2)) = some [.agg cs.toArray]) (hc : cs = cs')
  (hr : ∀ w, (Instr.buildSlice t 1 ((parts.toList.map (·.1)).zip [Value.agg cs'.toArray]).toArray).run P w = .ok (.slice (some ⟨w.heap.size, 0, none⟩) 1 1) (w.alloc (.cells ([Value.agg cs'.toArray].flatMap fun v => v.cells.toList).toArray E)))
  (k : ∀ w' g, g = w.heap.size → Blk w' g E ([Value.agg cs.toArray].flatMap fun v => v.cells.toList).toArray → Ch No w w' → w'.heap.size = g + 1 → K ((d, .slice (some ⟨g, 0, none⟩) 1 1) :: e) w') : OpE P n ⟨some d, .buildSlice t 1 parts, rt, pos, af, gd⟩ e w Q K := by
 subst hc
 exact rQ hlt hvs hr k
end
section
variable {w : World} {b o : Nat} {cs p q r : List Value} {v : Value}
theorem rng_sub (h : w.rangeAt b o cs) (he : cs = p ++ (q ++ r)) {j : Nat} (hp : p.length = j) : w.rangeAt b (o + j) q := by
 subst he hp
 intro i u hu
 have hi := (List.getElem?_eq_some_iff.1 hu).1
 have := h (p.length + i) u (by
  rw [List.getElem?_append_right (by omega), Nat.add_sub_cancel_left, List.getElem?_append_left hi]; exact hu)
 rwa [← Nat.add_assoc] at this
theorem jk (h : w.rangeAt b o cs) (he : cs = p ++ v :: r) {j : Nat} (hp : p.length = j) : w.cell? ⟨b, o + j, none⟩ = some v := by
 subst he hp
 refine h p.length v ?_
 rw [List.getElem?_append_right (by omega), Nat.sub_self]
 rfl
theorem nH {w' : World} {T : Nat → Prop} (h : w.rangeAt b o cs) (c : Ch T w w') (hn : ¬ T b) : w'.rangeAt b o cs := fun i u hu => c.cell hn (h i u hu)
theorem cE {w' : World} (h : w.rangeAt b o cs) (c : Ch No w w') : w'.rangeAt b o cs := fun i u hu => c.cell (fun h => h) (h i u hu)
end
/-! ### Records compared -/
section
variable {P : Program} {cs p r : List Value} {v : Value} {L : List UInt8} {o m : Nat}
theorem dP {t : TypeId} {D : TypeDesc} (ht : P.underlying t = some D) (hf : cj D = true) (he : cs = p ++ v :: r) (hp : p.length = o) : ∀ w, (part t cs.toArray o).run P w = .ok v w := fun w => jR ht hf (by
 subst he hp
 rw [List.getElem?_toArray, List.getElem?_append_right (Nat.le_refl _), Nat.sub_self]
 rfl)
theorem r7 {t : TypeId} {D : TypeDesc} (ht : P.underlying t = some D) (hf : cj D = false) (hi : (P.info? t).map (·.size) = some m) (hl : L.length = m) (he : cs = p ++ (List.map u8v L ++ r)) (hp : p.length = o) : ∀ w, (part t cs.toArray o).run P w = .ok (hv L) w := fun w => by
 rw [kN ht hf hi]
 subst he hp hl
 congr 2
 apply Array.toList_inj.1
 rw [List.extract_toArray]
 show ((p ++ (List.map u8v L ++ r)).extract p.length (p.length + L.length)) = _
 rw [List.extract_eq_take_drop, List.drop_left, Nat.add_sub_cancel_left, ← List.length_map (f := u8v) («as» := L), List.take_left]
end
end Go.Gx
namespace Go.Gx
open Go.RowKit
section
variable {α : Type} {E : Enc α} {w w' : World} {T F : Nat → Prop} {t : TypeId} {A B : Option Addr} {l l2 c c2 : Nat} {xs ys : List α} {n0 m : Nat}
theorem _root_.Go.Gx.Ch.nw {a b c : World} {T : Nat → Prop} (h : Ch No a b) (hc : Ch T b c) (hn : ∀ k, k < a.heap.size → ¬ T k) : Ch No a c := h.trans hc (fun _ _ h => h) (fun k hk ht => absurd ht (hn k hk))
theorem RI.head (h : RI w F t E A l c xs) {k : Nat} (hk : k ≤ l) : RI w F t E A k c (xs.take k) := by
 have hl := h.len
 obtain ⟨⟨⟨h1, h2⟩, h3⟩, h4⟩ := h
 have hf : (xs.flatMap E.f).take (k * E.n) = (xs.take k).flatMap E.f := fp h4
 have h5 : ∀ x ∈ xs.take k, E.ok x := fun x hx => h4 x (List.mem_of_mem_take hx)
 refine ⟨⟨⟨by rw [tB h5, List.length_take]; congr 1; omega, ?_⟩, ?_⟩, h5⟩
 ·rcases h2 with ⟨e, rfl⟩ | ⟨g, cap, cur, e, hb, hg, hnc, hm, hs, ht⟩
  ·obtain rfl : k = 0 := by omega
   exact .inl ⟨e, rfl⟩
  injection e with e1 e2 e3
  subst e1; subst e3
  refine .inr ⟨g, _, cur, rfl, hb, hg, by omega, hm, hs, ?_⟩
  rw [← hf, ← ht, List.take_take, Nat.min_eq_left (Nat.mul_le_mul_right _ hk)]
 intro i hi
 exact h3 i (by cases A with
  | none => simp [Value.ownBlock] at hi
  | some a => simpa [Value.ownBlock] using hi)
theorem RI.one {g : Nat} {x : α} {cs : List Value} (hb : Blk w g t ([Value.agg cs.toArray].flatMap fun v => v.cells.toList).toArray) (hc : cs = E.f x) (hx : E.ok x) : RI w (fun k => k = g) t E (some ⟨g, 0, none⟩) 1 1 [x] := by
 have e : ([Value.agg cs.toArray].flatMap fun v => v.cells.toList) = [x].flatMap E.f := by
  show ([Value.agg cs.toArray].flatMap fun v => v.cells.toList) = _
  rw [hc]
  simp [Value.cells]
 rw [e] at hb
 have := Row.of_lit (F := fun k => k = g) (sz := E.n) (l := 1) hb rfl (by simp [E.len x hx]) (by simp [maxLen])
 exact ⟨this, by simpa using hx⟩
structure R2 (w : World) (n0 m : Nat) (t : TypeId) (E : Enc α) (A : Option Addr) (l c : Nat) (xs : List α) (B : Option Addr) (l2 c2 : Nat) (ys : List α) : Prop where
 ex : ∃ F0 F1 : Nat → Prop, RI w F0 t E A l c xs ∧ RI w F1 t E B l2 c2 ys ∧ (∀ k, F0 k → ¬ F1 k) ∧ (∀ k, F0 k → n0 ≤ k ∧ k < m) ∧ (∀ k, F1 k → n0 ≤ k ∧ k < m)
theorem R2.nil (w : World) (n0 m : Nat) (t : TypeId) (E : Enc α) : R2 w n0 m t E none 0 0 [] none 0 0 [] := ⟨No, No, RI.nil _ _ _ _, RI.nil _ _ _ _, fun _ h => h.elim, fun _ h => h.elim, fun _ h => h.elim⟩
theorem R2.swap (h : R2 w n0 m t E A l c xs B l2 c2 ys) : R2 w n0 m t E B l2 c2 ys A l c xs := by
 obtain ⟨F0, F1, h1, h2, h3, h4, h5⟩ := h
 exact ⟨F1, F0, h2, h1, fun k a b => h3 k b a, h5, h4⟩
theorem R2.ch (h : R2 w n0 m t E A l c xs B l2 c2 ys) (k : Ch T w w') (hn : ∀ i, n0 ≤ i → i < m → ¬ T i) : R2 w' n0 m t E A l c xs B l2 c2 ys := by
 obtain ⟨F0, F1, h1, h2, h3, h4, h5⟩ := h
 exact ⟨F0, F1, h1.ch k (fun i _ hi => hn i (h4 i hi).1 (h4 i hi).2), h2.ch k (fun i _ hi => hn i (h5 i hi).1 (h5 i hi).2), h3, h4, h5⟩
theorem R2.no (h : R2 w n0 m t E A l c xs B l2 c2 ys) (k : Ch No w w') : R2 w' n0 m t E A l c xs B l2 c2 ys := h.ch k (fun _ _ _ h => h)
theorem R2.up (h : R2 w n0 m t E A l c xs B l2 c2 ys) {m' : Nat} (hm : m ≤ m') : R2 w n0 m' t E A l c xs B l2 c2 ys := by
 obtain ⟨F0, F1, h1, h2, h3, h4, h5⟩ := h
 exact ⟨F0, F1, h1, h2, h3, fun k hk => ⟨(h4 k hk).1, by have := (h4 k hk).2; omega⟩, fun k hk => ⟨(h5 k hk).1, by have := (h5 k hk).2; omega⟩⟩
theorem R2.fst (h : R2 w n0 m t E A l c xs B l2 c2 ys) : RI w (fun k => n0 ≤ k ∧ k < m) t E A l c xs := by
 obtain ⟨F0, F1, h1, h2, h3, h4, h5⟩ := h
 exact h1.mono (fun k _ hk => h4 k hk)
end
section
variable {P : Program} {Q : Exit → Act → World → Prop} {n d : Nat} {e : Env} {w : World} {K : Env → World → Prop} {rt : TypeId} {pos : String} {af : Array Edge} {gd : Option (Nat × Bool)}
end
/-! ### Hashes, in short -/
section
variable {P : Program} {Q : Exit → Act → World → Prop} {S : World → Prop} {n : Nat} {e : Env} {w : World} {K : Env → World → Prop} {dst : Option Tmp} {rt : TypeId} {pos : String} {af : Array Edge} {gd : Option (Nat × Bool)}
theorem e_stH {t E : TypeId} {a b : Operand} {g : Nat} {L0 L : List UInt8} (hi : (P.info? t).map (·.size) = some 32) (h0 : L0.length = 32) (hl : L.length = 32) (hx : ev e a = some (.pointer (some ⟨g, 0, none⟩))) (hy : ev e b = some (.agg (List.map u8v L).toArray)) (hb : Blk w g E (List.map u8v L0).toArray)
  (k : ∀ w', Blk w' g E (List.map u8v L).toArray → Ch (fun k => k = g) w w' → w'.heap.size = w.heap.size → K e w') : OpE P n ⟨none, .store t a b, rt, pos, af, gd⟩ e w Q K :=
 cV (vs := List.map u8v L) (by rw [List.length_map, hl]; exact hi) (dZ aX _) hx hy hb (by simp [h0, hl]) k
end
end Go.Gx
namespace Go.Gx
open Go.RowKit
section
variable {P : Program} {S : World → Prop} {n : Nat} {e : Env} {dst : Option Tmp} {rt : TypeId} {pos : String} {af : Array Edge} {gd : Option (Nat × Bool)}
theorem r8 {t : TypeId} {x : Operand} {E : TypeId} {A : Option Addr} {l c : Nat} (ht : P.underlying t = some (.slice E)) (hx : ev e x = some (.slice A l c)) : Pu P S n ⟨dst, .call { callee := .builtin .cap, args := #[x], argTypes := #[t] }, rt, pos, af, gd⟩ e (i64 (c : Int)) := fun a F w _ => by
 simp [execOp, resolve, invoke, builtin, Builtin.cap_, F.ev hx, run_underlying ht, goInt]
end
section
variable {w w' : World} {F : Nat → Prop} {E : TypeId} {A : Option Addr} {l c k : Nat} {xs : List Value}
end
section
variable {P : Program} {Q : Exit → Act → World → Prop} {n d : Nat} {e : Env} {w : World} {K : Env → World → Prop} {rt : TypeId} {pos : String} {af : Array Edge} {gd : Option (Nat × Bool)}
end
section
variable {w : World} {g o : Nat} {L : List UInt8} {m : Nat}
end
/-! ### New rows of noughts -/
section
variable {P : Program} {Q : Exit → Act → World → Prop} {S : World → Prop} {n : Nat} {e : Env} {w : World} {rt : TypeId} {pos : String} {af : Array Edge} {gd : Option (Nat × Bool)} {d : Nat} {dst : Option Tmp} {K : Env → World → Prop}
end
end Go.Gx
namespace Go.Gx
open Go.RowKit
def FW : Option Nat → Fence
 | none => Fence.wide
 | some l => Fence.wide.inRound l
theorem tC (ro : Option Nat) : (FW ro).depth = none := by cases ro <;> rfl
theorem jl (ro : Option Nat) (f : FuncId) : (FW ro).fn f := by cases ro <;> trivial
theorem mi {ro : Option Nat} {n : Nat} {P : Program} {f : FuncId} {args : Array Value} {w : World} {R : Ending → World → Prop} (h : Calls P f args w R) : CallsIn (FW ro) n P f args w R := by
 cases ro with
 | none => exact callsIn_wide.2 h
 | some l => exact CallsIn.inRound l (callsIn_wide.2 h)
theorem oU {ro : Option Nat} {n : Nat} {P : Program} {row : String} {args : Array Value} {w : World} {R : Value → World → Prop} (h : Rows P row args w R) : RowsIn (FW ro) n P row args w R := fun c cs _ => by
 obtain ⟨v, w', r, s⟩ := h c cs
 refine ⟨v, w', r, ?_⟩
 cases ro with
 | none => exact stepsIn_wide.2 s
 | some l => exact stepsIn_wide.2 s
section
variable {P : Program} {ops : Array Oper} {Q : Exit → Act → World → Prop} {n m : Nat} {ro : Option Nat} {e : Env} {w : World} {rest : List Oper} {o : Oper}
def WLi (P : Program) (ops : Array Oper) (Q : Exit → Act → World → Prop) (n m : Nat) (ro : Option Nat) (l : List Oper) (e : Env) (w : World) : Prop := ∀ a, Fr n a e → wpListIn (FW ro) m P ops Q l a w
theorem mj {a : Act} {K : Act → World → Prop} (hnd : ∀ c, o.op ≠ .defer c) (h : o.wp P a w K Q) : o.wpIn (FW ro) m P a w K Q := by
 refine ⟨fun f _ => jl ro f, ?_⟩
 rw [Oper.semAt_eq _ _ _ hnd]
 unfold Oper.wp at h
 revert h
 generalize (execOp a.eval o).run P w = r
 intro h
 cases r with
 | halt x w' => cases x <;> simp only [Oper.upon, Oper.uponIn] at h ⊢ <;> exact h
 | ok nx w' =>
  cases nx with
  | value v => exact h
  | skip => exact h
  | enter f args => exact ⟨fun hd => (by rw [tC] at hd; cases hd), mi h⟩
  | round l f t a b => simp only [Oper.upon] at h
  | defer d => exact h
  | row r args => exact ⟨fun hd => (by rw [tC] at hd; cases hd), oU h⟩
  | _ => simp only [Oper.upon] at h
theorem wli {d : Nat} {v : Value} (hg : o.guard = none) (hd : o.dst = some d) (hlt : Nat.blt d n = true) (hp : Pu P (· = w) n o e v) (k : WLi P ops Q n m ro rest ((d, v) :: e) w) (hnd : ∀ c, o.op ≠ .defer c := by intro c h; cases h) : WLi P ops Q n m ro (o :: rest) e w := by
 intro a F
 unfold wpListIn
 rw [if_pos (by simp [Region.wanted, hg])]
 refine mj hnd ?_
 simp only [Oper.wp, hp a F w rfl, Oper.upon, hd]
 exact k _ (F.put hlt v)
theorem eo (hg : o.guard = none) (hno : ¬ LetsOut Q) (h : OpE P n o e w Q (fun e' w' => WLi P ops Q n m ro rest e' w')) (hnd : ∀ c, o.op ≠ .defer c := by intro c h; cases h) : WLi P ops Q n m ro (o :: rest) e w := by
 intro a F
 unfold wpListIn
 rw [if_pos (by simp [Region.wanted, hg])]
 rcases h a F with h | h
 ·exact mj hnd (Oper.wp_mono (fun a' w' ⟨e', F', hk⟩ => hk a' F') h)
 exact absurd h.2 hno
theorem bC (h : WQ Q n .normal e w) : WLi P ops Q n m ro [] e w := fun a F => h a F
theorem jX {d : Nat} {f : Operand} {xs : Array Operand} {ts : Array TypeId} {l : Nat} {vs : List Value} {R : Ending → World → Prop} {rt : TypeId} {pos : String} {af : Array Edge} {gd : Option (Nat × Bool)} (hg : ∀ a, Fr n a e → Region.wanted ⟨some d, .call { callee := .value f, args := xs, argTypes := ts }, rt, pos, af, gd⟩ (yielded ops a.tmps) = true) (hlt : Nat.blt d n = true)
  (hf : ev e f = some (.func (.yield l) #[] #[])) (hx : evs e xs.toList = some vs) (hy : YieldAt Fence.wide (m - 1) P l vs.toArray w R) (hno : ¬ LetsOut Q)
  (k : ∀ ed w', R ed w' → ∃ v, ed = .returned v ∧ WLi P ops Q n m none rest ((d, v) :: e) w') : WLi P ops Q n m none (⟨some d, .call { callee := .value f, args := xs, argTypes := ts }, rt, pos, af, gd⟩ :: rest) e w := by
 intro a F
 unfold wpListIn
 rw [if_pos (hg a F)]
 obtain ⟨fn, tmps, assign, body, hrun, hR⟩ := hy
 refine ⟨fun f _ => jl none f, ?_⟩
 rw [Oper.semAt_eq _ _ _ (by intro c h; cases h)]
 have hargs : xs.map a.eval = vs.toArray := by
  apply Array.toList_inj.1
  simp [F.evs hx]
 have he : (execOp a.eval ⟨some d, .call { callee := .value f, args := xs, argTypes := ts }, rt, pos, af, gd⟩).run P w = .ok (.round l fn tmps assign body) w := by
  simp [execOp, resolve, invoke, Deferred.ofValue, F.ev hf, hargs, hrun]
 rw [he]
 refine ⟨fun hd => (by rw [tC] at hd; cases hd), hR.mono fun ed w' hed => ?_⟩
 obtain ⟨v, rfl, hk⟩ := k ed w' hed
 exact hk _ (F.put hlt v)
theorem jm {id : Nat} {l : List Oper} (m : Nat) (h : WLi P l.toArray Q n m none l e w) : WC P Q n (.region id l.toArray false) e w := fun a F => wpIn_wide.1 (wpIn_region_lit (h a F))
theorem bw {K : Act → World → Prop} (h : ¬ LetsOut Q) : ¬ LetsOut (Exit.then K Q) := fun ⟨a, w, hq⟩ => h ⟨a, w, hq⟩
theorem cr {i : Nat} (h : ¬ LetsOut Q) : ¬ LetsOut (Exit.inBlock i Q) := fun ⟨a, w, hq⟩ => h ⟨a, w, hq⟩
theorem oV {fn : Func} {R : Ending → World → Prop} (h : ∀ w, ¬ R .outgrown w) : ¬ LetsOut (bodyPost P fn R) := fun ⟨a, w, hq⟩ => h w (by first | exact hq | exact hq.2)
end
theorem dv (W : World) (l : Nat) (o : Obj) : Ch (fun k => k = l) W (W.putObj l o) := ⟨rfl, rfl, rfl, by simp [World.putObj], fun k _ hn => World.putObj_heap_other (fun h => hn h)⟩
theorem Ch.heap {T : Nat → Prop} {W W' : World} (c : Ch T W W') {k : Nat} {o : Obj} (h : W.heap[k]? = some o) (hn : ¬ T k) : W'.heap[k]? = some o := (c.block k (Array.getElem?_eq_some_iff.1 h).1 hn).trans h
structure FrD (n : Nat) (ds : List Deferred) (a : Act) (e : Env) : Prop where
 size : a.tmps.size = n
 defs : a.defers = ds
 get : ∀ t v, look t e = some v → a.tmps.getD t undef = v
section
variable {P : Program} {Q : Exit → Act → World → Prop} {n : Nat} {e : Env} {w : World}
theorem kP {f : FuncId} {fn : Func} {c : Code} {args : List Value} {R : Ending → World → Prop} (hf : P.funcs[f]? = some fn) (hb : fn.body = some c) (hn : fn.ntmps = n)
  (hl : Nat.ble args.length n = true) (h : WC P (bodyPostM Fence.wide 1 P fn R) n c (eQ 0 args) w) : Calls P f args.toArray w R := by
 have hle : args.length ≤ n := Nat.le_of_ble_eq_true hl
 refine (callsIn_wide (n := 1)).1 (callsIn_of_wp_marks hf hb trivial (wpIn_wide.2 (h _ ⟨?_, rfl, ?_⟩)))
 ·simp [hn]; omega
 refine gQ _ args 0 (fun i v hi => ?_)
 have hlt : i < args.length := (List.getElem?_eq_some_iff.1 hi).1
 have h2 : args[i]'hlt = v := (List.getElem?_eq_some_iff.1 hi).2
 simp [Array.getElem?_append, hlt, h2]
end
theorem FrD.sub {n : Nat} {ds : List Deferred} {a : Act} {e e' : Env} (F : FrD n ds a e) (h : Sub e e') : FrD n ds a e' := ⟨F.size, F.defs, fun t v hv => F.get t v (h.look t v hv)⟩
theorem Fr.hand2 {n : Nat} {a : Act} {e : Env} (F : Fr n a e) {p q : Nat} {u v : Value} (hp : Nat.blt p n = true) (hq : Nat.blt q n = true) : Fr n { tmps := (#[p, q].zip #[u, v]).foldl (fun t (p, v) => t.setIfInBounds p v) a.tmps, defers := [] } ((q, v) :: (p, u) :: e) := by
 have h := (F.put hp u).put hq v
 exact ⟨by simpa [Act.put] using h.size, rfl, fun t x hx => by simpa [Act.put] using h.get t x hx⟩
def AllPu (P : Program) (w : World) (n : Nat) (e : Env) (dsts : List Nat) (deps : Nat → List Nat) (vals : Nat → Value) : Nat → List Oper → Prop
 | _, [] => True
 | k, o :: r => Pu P (· = w) n o ((deps k).map (fun j => (dsts.getD j 0, vals j)) ++ e) (vals k) ∧ AllPu P w n e dsts deps vals (k + 1) r
theorem AllPu.at_ {P : Program} {w : World} {n : Nat} {e : Env} {dsts : List Nat} {deps : Nat → List Nat} {vals : Nat → Value} : ∀ {l : List Oper} {k : Nat}, AllPu P w n e dsts deps vals k l → ∀ {i : Nat} {o : Oper}, l[i]? = some o → Pu P (· = w) n o ((deps (k + i)).map (fun j => (dsts.getD j 0, vals j)) ++ e) (vals (k + i))
 | [], _, _, i, _, h => by simp at h
 | _ :: _, k, h, 0, _, ho => by simp at ho; subst ho; exact h.1
 | _ :: r, k, h, i + 1, _, ho => by have := h.2.at_ (l := r) (by simpa using ho); rwa [show k + 1 + i = k + (i + 1) from by omega] at this
end Go.Gx
namespace Go.Gx
open Go.RowKit
def r9 {α : Type} (b l : Nat) (I : List α → World → Prop) (Ix : Code → List α → World → Prop) (xs : List α) (W : World) : Exit → Act → World → Prop
 | .normal, _, W3 => I xs W3 ∧ Ch (fun k => k ≠ l ∧ k ≠ b) W W3
 | .ret, _, W3 => Ix .ret xs W3 ∧ Ch (fun k => k ≠ l ∧ k ≠ b) W W3
 | .exit i, _, W3 => Ix (.exit i) xs W3 ∧ Ch (fun k => k ≠ l ∧ k ≠ b) W W3
 | _, _, _ => False
def SeqS {α : Type} (P : Program) (m gf : Nat) (lb : Array Value) (w : World) (encs : α → Array Value) (D : List α → α → Prop) (S Sp : List α → Prop) (X : World → Prop) : Prop :=
 ∀ (l : Nat) (J Jx : List α → World → Prop) (W : World), Ch No w W → w.heap.size + 2 ≤ W.heap.size → (∀ xs A B, J xs A → Ch No A B → J xs B) → (∀ xs A B, Jx xs A → Ch No A B → Jx xs B) → (∀ xs A, J xs A → X A) →
  (∀ pre x Wq, D pre x → J pre Wq → YieldAt Fence.wide m P l (encs x) Wq fun ed W' => (ed = .returned (.bool true) ∧ J (pre ++ [x]) W') ∨ (ed = .returned (.bool false) ∧ Jx (pre ++ [x]) W')) →
  J [] W → Calls P gf (#[.func (.yield l) #[] #[]] ++ lb) W fun ed W' => (∃ v, ed = .returned v) ∧ ((∃ xs, S xs ∧ J xs W') ∨ ∃ xs, Sp xs ∧ Jx xs W')
section
variable {P : Program} {Q : Exit → Act → World → Prop} {n : Nat} {e : Env} {w : World}
set_option maxHeartbeats 1000000 in
theorem gW {α : Type} {g : Operand} {ps : Array Tmp} {assign body : Code} {gf : Nat} {lb : Array Value} (m : Nat)
  (hg : ev e g = some (.func (.func gf) #[] lb)) (eg : ∀ args w, (callFunc gf args).run P w = .ok (.enter gf args) w)
  (encs : α → Array Value) (hps : ∀ x, (encs x).size = ps.size) (D : List α → α → Prop) (S Sp : List α → Prop) (X : World → Prop)
  (hseq : SeqS P m gf lb w encs D S Sp X)
  (I : List α → World → Prop) (Ix : Code → List α → World → Prop) (hI : ∀ xs A B, I xs A → Ch No A B → I xs B) (hIx : ∀ c xs A B, Ix c xs A → Ch No A B → Ix c xs B)
  (hIl : ∀ xs A B, I xs A → Ch (fun k => k = w.heap.size + 1) A B → I xs B) (hIxl : ∀ c xs A B, Ix c xs A → Ch (fun k => k = w.heap.size + 1) A B → Ix c xs B)
  (hXI : ∀ xs W, I xs W → X W) (h0 : ∀ W, Ch No w W → W.heap.size = w.heap.size + 2 → I [] W)
  (hround : ∀ (l : Nat) (pre : List α) (x : α) (W : World), l = w.heap.size + 1 → D pre x → w.heap.size + 2 ≤ W.heap.size → I pre W → ∀ a, Fr n a e →
   assign.wpIn (FW (some l)) m P (Exit.then (fun a1 W1 => Ch (fun k => k ≠ l ∧ k ≠ w.heap.size) W W1 ∧ ∀ W2, Ch (fun k => k = l) W1 W2 → W2.heap.size = W1.heap.size → body.wpIn (FW (some l)) m P (r9 w.heap.size l I Ix (pre ++ [x]) W2) a1 W2) (fun _ _ _ => False)) { tmps := (ps.zip (encs x)).foldl (fun t (p, v) => t.setIfInBounds p v) a.tmps, defers := [] } W)
  (hdone : ∀ xs W a', S xs → I xs W → W.heap[w.heap.size]? = some (.deferred (some [])) → FrD n [{ target := .collected w.heap.size, args := #[] }] a' e → Q .normal a' W)
  (hstop : ∀ c xs W a', Sp xs → Ix c xs W → W.heap[w.heap.size]? = some (.deferred (some [])) → FrD n [{ target := .collected w.heap.size, args := #[] }] a' e → c.wp P Q a' W) :
  WC P Q n (.rangeFunc g ps assign body) e w := by
 intro a F
 refine (wpIn_wide (n := 1)).1 (wpIn_rangeFunc fun fn _ => ?_)
 obtain ⟨rec, hrec⟩ : ∃ rec : LoopState → Option Code → Loop, rec = fun st pe => { state := st, pending := pe, fn, tmps := a.tmps, params := ps, assign, body, defers := w.heap.size } := ⟨_, rfl⟩
 obtain ⟨W1, hW1⟩ : ∃ W1, (w.alloc (.deferred (some []))).alloc (.loop (rec .ready none)) = W1 := ⟨_, rfl⟩
 have hL1 : W1.heap[w.heap.size + 1]? = some (.loop (rec .ready none)) := by
  rw [← hW1]; have := World.alloc_heap_new (w.alloc (.deferred (some []))) (.loop (rec .ready none)); rwa [World.size_alloc] at this
 have hK1 : W1.heap[w.heap.size]? = some (.deferred (some [])) := by
  rw [← hW1]; exact (Ch.alloc (w.alloc (.deferred (some []))) (.loop (rec .ready none))).heap (World.alloc_heap_new w (.deferred (some []))) (fun h => h)
 have hc1 : Ch No w W1 := by rw [← hW1]; exact (Ch.alloc w _).tr (Ch.alloc _ _)
 have hs1 : W1.heap.size = w.heap.size + 2 := by rw [← hW1]; simp
 refine ⟨w.heap.size + 1, [{ target := .collected w.heap.size, args := #[] }], W1, { target := .fn (.func gf) lb, args := #[.func (.yield (w.heap.size + 1)) #[] #[]] }, W1, gf,
  #[.func (.yield (w.heap.size + 1)) #[] #[]] ++ lb, W1, ?_, ?_, fun _ _ => trivial, ?_, fun hd => ?_, callsIn_wide.2 ?_⟩
 ·rw [← hW1, hrec]; exact run_enterLoop_outer _ _ _ _ _
 ·simp only [resolve, F.ev hg]
  simp [go_sem]
 ·simp [invoke, go_sem, eg]
 ·cases hd
 have FD : FrD n [{ target := .collected w.heap.size, args := #[] }] { a with defers := [{ target := .collected w.heap.size, args := #[] }] ++ a.defers } e := ⟨F.size, by simp [F.defs], F.get⟩
 have hcl := hseq (w.heap.size + 1) (fun xs W => I xs W ∧ W.heap[w.heap.size + 1]? = some (.loop (rec .ready none)) ∧ W.heap[w.heap.size]? = some (.deferred (some [])) ∧ w.heap.size + 2 ≤ W.heap.size)
  (fun xs W => ∃ c, Ix c xs W ∧ W.heap[w.heap.size + 1]? = some (.loop (rec .done (some c))) ∧ W.heap[w.heap.size]? = some (.deferred (some []))) W1 hc1 (by omega) ?_ ?_ ?_ ?_ ⟨h0 W1 hc1 hs1, hL1, hK1, by omega⟩
 ·refine hcl.mono ?_
  clear hcl
  rintro ed W2 ⟨⟨v, rfl⟩, ⟨xs, hS, h1, h2, h3, h5⟩ | ⟨xs, hS, c, h1, h2, h3⟩⟩
  ·have c4 := fun o => dv W2 (w.heap.size + 1) o
   have he := run_endLoop (P := P) h2 (by rw [hrec]; simp)
   rw [hrec] at he
   exact ⟨none, _, he, hdone xs _ _ hS (hIl _ _ _ h1 (c4 _)) ((c4 _).heap h3 (by omega)) FD⟩
  have c4 := fun o => dv W2 (w.heap.size + 1) o
  have he := run_endLoop (P := P) h2 (by rw [hrec]; simp)
  rw [hrec] at he
  exact ⟨some c, _, he, wpIn_wide.2 (hstop c xs _ _ hS (hIxl _ _ _ _ h1 (c4 _)) ((c4 _).heap h3 (by omega)) FD)⟩
 ·rintro xs A B ⟨h1, h2, h3, h5⟩ c
  exact ⟨hI xs A B h1 c, c.heap h2 (fun h => h), c.heap h3 (fun h => h), Nat.le_trans h5 c.size⟩
 ·rintro xs A B ⟨c', h1, h2, h3⟩ c
  exact ⟨c', hIx c' xs A B h1 c, c.heap h2 (fun h => h), c.heap h3 (fun h => h)⟩
 ·rintro xs A ⟨h1, _⟩
  exact hXI xs A h1
 rintro pre x Wq hD ⟨h1, hl, hk, h5⟩
 have hy := run_yield (P := P) (args := encs x) hl (by rw [hrec]; exact hps x)
 rw [hrec] at hy
 refine ⟨fn, _, assign, body, hy, roundIn_of_wpIn (F := Fence.wide) trivial (wpIn_mono (hround (w.heap.size + 1) pre x Wq rfl hD h5 h1 a F) ?_)⟩
 intro ex a1 Wz hz
 cases ex with
 | normal =>
  obtain ⟨c0, hz⟩ := hz
  have hlz := c0.heap hl (fun h => h.1 rfl)
  have hkz := c0.heap hk (fun h => h.2 rfl)
  refine ⟨_, run_beginRound hlz (by rw [hrec]), ?_⟩
  obtain ⟨W2, hW2⟩ : ∃ W2, Wz.putObj (w.heap.size + 1) (.loop { rec .ready none with state := .busy }) = W2 := ⟨_, rfl⟩
  rw [hW2]
  have c2 : Ch (fun k => k = w.heap.size + 1) Wz W2 := by rw [← hW2]; exact dv _ _ _
  have hlt : w.heap.size + 1 < Wz.heap.size := (Array.getElem?_eq_some_iff.1 hlz).1
  have hl2 : W2.heap[w.heap.size + 1]? = some (.loop { rec .ready none with state := .busy }) := by rw [← hW2]; exact World.putObj_heap_same hlt
  have hk2 := c2.heap hkz (by omega)
  have fin : ∀ (jump : Option Code) (W3 : World), Ch (fun k => k ≠ w.heap.size + 1 ∧ k ≠ w.heap.size) W2 W3 → ∃ W4, (Instr.endRound (w.heap.size + 1) jump).run P W3 = .ok (.bool jump.isNone) W4 ∧ Ch (fun k => k = w.heap.size + 1) W3 W4 ∧
    W4.heap[w.heap.size + 1]? = some (.loop (rec (if jump.isNone then .ready else .done) jump)) ∧ W4.heap[w.heap.size]? = some (.deferred (some [])) ∧ w.heap.size + 2 ≤ W4.heap.size := fun jump W3 c3 => by
   have hl3 := c3.heap hl2 (fun h => h.1 rfl)
   have hk3 := c3.heap hk2 (fun h => h.2 rfl)
   have hr := run_endRound (P := P) jump hl3
   have hlt3 : w.heap.size + 1 < W3.heap.size := (Array.getElem?_eq_some_iff.1 hl3).1
   have := c0.size; have := c2.size; have := c3.size
   refine ⟨_, hr, dv _ _ _, ?_, (dv _ _ _).heap hk3 (by omega), by simp [World.putObj]; omega⟩
   rw [World.putObj_heap_same hlt3, hrec]
  refine wpIn_mono (hz W2 c2 (by rw [← hW2]; simp [World.putObj])) ?_
  intro ex a3 W3 hz
  cases ex with
  | normal =>
   obtain ⟨hI3, c3⟩ := hz
   obtain ⟨W4, hr, c4, h6, h7, h8⟩ := fin none W3 c3
   exact ⟨_, W4, hr, .inl ⟨rfl, hIl _ _ _ hI3 c4, h6, h7, h8⟩⟩
  | ret =>
   obtain ⟨hI3, c3⟩ := hz
   obtain ⟨W4, hr, c4, h6, h7, h8⟩ := fin (some .ret) W3 c3
   exact ⟨_, W4, hr, .inr ⟨rfl, .ret, hIxl _ _ _ _ hI3 c4, h6, h7⟩⟩
  | exit i =>
   obtain ⟨hI3, c3⟩ := hz
   obtain ⟨W4, hr, c4, h6, h7, h8⟩ := fin (some (.exit i)) W3 c3
   exact ⟨_, W4, hr, .inr ⟨rfl, .exit i, hIxl _ _ _ _ hI3 c4, h6, h7⟩⟩
  | _ => exact hz.elim
 | _ => exact hz.elim
end
/-! ### Code walked inside the wide fence -/
def WCi (P : Program) (Q : Exit → Act → World → Prop) (n m : Nat) (ro : Option Nat) (c : Code) (e : Env) (w : World) : Prop := ∀ a, Fr n a e → c.wpIn (FW ro) m P Q a w
def NXi (P : Program) (Q : Exit → Act → World → Prop) (m : Nat) (ro : Option Nat) (y : Code) : Act → World → Prop := fun a w => y.wpIn (FW ro) m P Q a w
section
variable {P : Program} {Q : Exit → Act → World → Prop} {n m : Nat} {ro : Option Nat} {e : Env} {w : World}
theorem bS {x y : Code} (h : WCi P (Exit.then (NXi P Q m ro y) Q) n m ro x e w) : WCi P Q n m ro (.seq x y) e w := fun a F => wpIn_seq (h a F)
theorem bj {id : Nat} {l : List Oper} (h : WLi P l.toArray Q n m ro l e w) : WCi P Q n m ro (.region id l.toArray false) e w := fun a F => wpIn_region_lit (h a F)
theorem ml (h : WQ Q n .normal e w) : WCi P Q n m ro .skip e w := fun a F => wpIn_skip (h a F)
theorem se {i : Nat} (h : WQ Q n (.exit i) e w) : WCi P Q n m ro (.exit i) e w := fun a F => wpIn_exit (h a F)
theorem gX {i : Nat} {c : Code} (h : WCi P (Exit.inBlock i Q) n m ro c e w) : WCi P Q n m ro (.block i c) e w := fun a F => wpIn_block (h a F)
theorem nI {c : Operand} {x y : Code} {b : Bool} (hc : ev e c = some (.bool b)) (ht : b = true → WCi P Q n m ro x e w) (hf : b = false → WCi P Q n m ro y e w) : WCi P Q n m ro (.cond c x y) e w :=
 fun a F => wpIn_cond_split (F.ev hc) (fun h => ht h a F) (fun h => hf h a F)
theorem cn {y : Code} {Q' : Exit → Act → World → Prop} (h : WCi P Q n m ro y e w) : WQ (Exit.then (NXi P Q m ro y) Q') n .normal e w := h
theorem nJ {W : World} {l b : Nat} {body : Code} {R : World → Exit → Act → World → Prop} {Q' : Exit → Act → World → Prop} (c : Ch (fun k => k ≠ l ∧ k ≠ b) W w) (h : ∀ W2, Ch (fun k => k = l) w W2 → W2.heap.size = w.heap.size → WCi P (R W2) n m ro body e W2) :
  WQ (Exit.then (fun a1 W1 => Ch (fun k => k ≠ l ∧ k ≠ b) W W1 ∧ ∀ W2, Ch (fun k => k = l) W1 W2 → W2.heap.size = W1.heap.size → body.wpIn (FW ro) m P (R W2) a1 W2) Q') n .normal e w := fun a F => ⟨c, fun W2 c2 hs => h W2 c2 hs a F⟩
theorem bD {α : Type} {b l : Nat} {I : List α → World → Prop} {Ix : Code → List α → World → Prop} {xs : List α} {W : World} : ¬ LetsOut (r9 b l I Ix xs W) := fun ⟨_, _, h⟩ => h
theorem bo {K : Act → World → Prop} : ¬ LetsOut (Exit.then K (fun _ _ _ => False)) := fun ⟨_, _, h⟩ => h
theorem fq {α : Type} {b l : Nat} {I : List α → World → Prop} {Ix : Code → List α → World → Prop} {xs : List α} {W : World} (h : I xs w) (c : Ch (fun k => k ≠ l ∧ k ≠ b) W w) : WQ (r9 b l I Ix xs W) n .normal e w := fun _ _ => ⟨h, c⟩
end
end Go.Gx
namespace Go.Gx
open Go.RowKit
section
variable {P : Program} {Q : Exit → Act → World → Prop} {n m : Nat} {ro : Option Nat} {e : Env} {w : World}
theorem kQ {x y : Code} (J : Env → World → Prop) (h : WCi P (Exit.then (fun a w => ∃ e, Fr n a e ∧ J e w) Q) n m ro x e w) (k : ∀ e w, J e w → WCi P Q n m ro y e w) : WCi P Q n m ro (.seq x y) e w :=
 fun a F => wpIn_seq (wpIn_mono (h a F) (fun x a w hx => by
  cases x with
  | normal => obtain ⟨e', F', hj⟩ := hx; exact k e' w hj a F'
  | _ => exact hx))
end
end Go.Gx
namespace Go.Gx
open Go.RowKit Go.ChangeShapes Go.WideShapes Go.ChangeAt
section
variable {H : Type} {enc : TypeId × Value → H} {P : Program} {w : World} {held : Bool} {fuel : Nat} {t : TypeId} {cs : List Value} {d : DataW H} {p : List MemPlace}
def Light (P : Program) (t : TypeId) (d : DataW H) : Prop := ∀ n ∈ d.weights P t, n ≤ reachBytes
theorem fO {ts : List TypeId} {ds : List (DataW H)} (h : (DataW.weightsEach P ts ds).all (· ≤ reachBytes) = true) {j : Nat} {t : TypeId} {d : DataW H} (ht : ts[j]? = some t) (hd : ds[j]? = some d) : Light P t d := fun n hn => by
 have := List.all_eq_true.1 h n (DataW.weights_mem_each ht hd n hn)
 simpa using this
theorem dw {e : TypeId} {ds : List (DataW H)} {d : DataW H} (hd : d ∈ ds) {n : Nat} (hn : n ∈ d.weights P e) : n ∈ DataW.weightsAll P e ds := by
 induction ds with
 | nil => cases hd
 | cons x r ih =>
  simp only [DataW.weightsAll, List.mem_append]
  rcases List.mem_cons.1 hd with rfl | h
  ·exact .inl hn
  exact .inr (ih h)
theorem Light.elems {e : TypeId} {elems spare : List (DataW H)} (hu : P.underlying t = some (.slice e)) (h : Light P t (.slice elems spare)) : (elems.length + spare.length) * P.bytesOf e ≤ reachBytes ∧ ∀ x, x ∈ elems ∨ x ∈ spare → Light P e x := by
 refine ⟨h _ (by simp [DataW.weights, hu]), fun x hx n hn => h n ?_⟩
 simp only [DataW.weights, hu, List.mem_cons, List.mem_append]
 rcases hx with hx | hx
 ·exact .inr (.inl (dw hx hn))
 exact .inr (.inr (dw hx hn))
theorem Light.parts {n : Nat} {e : TypeId} {ps : List (DataW H)} (hu : P.underlying t = some (.array n e)) (h : Light P t (.agg ps)) : ∀ x ∈ ps, Light P e x := fun x hx n hn => h n (by
 simp only [DataW.weights, hu]; exact dw hx hn)
theorem fu (hu : P.underlying t = some .string) (h : DataW.trod enc P w 0 (fun _ => true) held fuel t cs = some (d, p)) (hz : Light P t d) : ∃ s, cs = [.string s] ∧ s.size ≤ 140737488351232 := by
 cases fuel with
 | zero => simp [DataW.trod] at h
 | succ m =>
  unfold DataW.trod at h
  rw [hu] at h
  split at h <;> simp_all
  obtain ⟨_, h2⟩ := h
  obtain ⟨rfl, _⟩ := h2
  have := hz _ (by simp only [DataW.weights]; exact List.mem_singleton.2 rfl)
  rw [Array.length_toList] at this
  exact this
theorem gY {k : IntKind} (hu : P.underlying t = some (.int k)) (h : DataW.trod enc P w 0 (fun _ => true) held fuel t cs = some (d, p)) : ∃ n, cs = [.int k n] ∧ (Lit.int k n).wf = true := by
 cases fuel with
 | zero => simp [DataW.trod] at h
 | succ m =>
  unfold DataW.trod at h
  rw [hu] at h
  split at h <;> simp_all
theorem kR (hu : P.underlying t = some .bool) (h : DataW.trod enc P w 0 (fun _ => true) held fuel t cs = some (d, p)) : ∃ b, cs = [.bool b] := by
 cases fuel with
 | zero => simp [DataW.trod] at h
 | succ m =>
  unfold DataW.trod at h
  rw [hu] at h
  split at h <;> simp_all
theorem u8v_of {n : Int} (h : (Lit.int .u8 n).wf = true) : Value.int .u8 n = u8v (UInt8.ofNat n.toNat) := by
 have := bounds_u8 h
 simp only [u8v]
 congr 1
 simp
 omega
theorem rd_of {α : Type} {f : α → Value} {a : Addr} {l : List α} (hc : ∀ i x, l[i]? = some x → w.cell? (a.add i) = some (f x)) : Rd w (fun _ => True) (some a) (l.map f) := by
 rcases l with _ | ⟨x, r⟩
 ·exact .inl rfl
 have h0 := hc 0 x rfl
 obtain ⟨b, o, spot⟩ := a
 have hs : spot = none := by simpa [Addr.add] using World.cell?_spot h0
 subst hs
 refine .inr ⟨b, o, rfl, trivial, fun j u hj => ?_⟩
 rw [List.getElem?_map] at hj
 obtain ⟨y, hy, rfl⟩ := Option.map_eq_some_iff.1 hj
 have := hc j y hy
 rwa [Addr.add_mid] at this
theorem mn {n : Nat} {e : TypeId} (hu : P.underlying t = some (.array n e)) (hc : P.cellsOf e = 1) (hn : P.cellsOf t = n) (h : DataW.trod enc P w 0 (fun _ => true) held fuel t cs = some (d, p)) (hz : Light P t d) :
  cs.length = n ∧ ∀ (i : Nat) (v : Value), cs[i]? = some v → ∃ m d' p', DataW.trod enc P w 0 (fun _ => true) held m e [v] = some (d', p') ∧ Light P e d' := by
 obtain ⟨xs, m, rfl, hx, hl, hxl, hel⟩ := DataW.trod_array hu h
 rw [hn] at hl
 refine ⟨hl, fun i v hv => ?_⟩
 have hi : i < cs.length := (List.getElem?_eq_some_iff.1 hv).1
 have h1 := hel i (by omega)
 rw [hc, Nat.mul_one] at h1
 have h2 : (cs.drop i).take 1 = [v] := by
  rw [List.drop_eq_getElem_cons hi]
  simp only [List.take_succ_cons, List.take_zero, List.cons.injEq, and_true]
  rw [List.getElem?_eq_getElem hi] at hv
  exact Option.some.inj hv
 rw [h2] at h1
 have hix : i < xs.length := by omega
 rw [List.getElem?_eq_getElem hix] at h1
 refine ⟨m, xs[i].1, xs[i].2, h1, ?_⟩
 injection hx with hd _
 subst hd
 exact hz.parts hu _ (List.mem_map.2 ⟨_, List.getElem_mem hix, rfl⟩)
theorem sf {e : TypeId} {c : Nat} (hu : P.underlying t = some (.slice e)) (hc : P.cellsOf e = c) (h : DataW.trod enc P w 0 (fun _ => true) held fuel t cs = some (d, p)) (hz : Light P t d) :
  ∃ (A : Option Addr) (l k : Nat) (els : List (List Value)), cs = [.slice A l k] ∧ l ≤ k ∧ els.length = l ∧ k * P.bytesOf e ≤ 140737488351232 ∧ (∀ i el, els[i]? = some el → ∃ a, A = some a ∧ el.length = c ∧ ∀ j v, el[j]? = some v → w.cell? ((a.add (i * c)).add j) = some v) ∧
   ∀ el ∈ els, ∃ m d' p', DataW.trod enc P w 0 (fun _ => true) held m e el = some (d', p') ∧ Light P e d' := by
 rcases DataW.trod_slice hu h with ⟨rfl, hx⟩ | ⟨a, len, cap, elems, rest, n, _, rfl, hx, hb, hl, hm, hlen, hel, hsp, hns⟩
 ·exact ⟨none, 0, 0, [], rfl, Nat.le_refl _, rfl, by omega, by simp, by simp⟩
 injection hx with hd _
 subst hd
 obtain ⟨hsz, helem⟩ := hz.elems hu
 obtain ⟨hrl, hr⟩ := hsp rfl
 rw [hc] at hel
 have hk : cap * P.bytesOf e ≤ 140737488351232 := by
  rw [List.length_map, List.length_map, hlen, hrl, show len + (cap - len) = cap by omega] at hsz
  exact hsz
 have bF : ∀ i, i < len → ∃ el y, w.cells? 0 (a.add (i * c)) c = some el ∧ elems[i]? = some y ∧ DataW.trod enc P w 0 (fun _ => true) held n e el = some y := fun i hi => by
  have h1 := hel i hi
  rw [List.getElem?_eq_getElem (show i < elems.length by omega)] at h1
  obtain ⟨el, h2, h3⟩ := Option.bind_eq_some_iff.1 h1
  exact ⟨el, _, h2, List.getElem?_eq_getElem (by omega), h3⟩
 let els := (List.range len).map fun i => (w.cells? 0 (a.add (i * c)) c).getD []
 have hels : ∀ i el, els[i]? = some el → w.cells? 0 (a.add (i * c)) c = some el ∧ i < len := fun i el he => by
  simp only [els, List.getElem?_map, Option.map_eq_some_iff] at he
  obtain ⟨j, hj, rfl⟩ := he
  have hil : i < len := by
   rcases Nat.lt_or_ge i len with h | h
   ·exact h
   simp [List.getElem?_eq_none (show (List.range len).length ≤ i by simpa using h)] at hj
  obtain ⟨el, y, h1, _⟩ := bF i hil
  have hji : j = i := by
   simp [List.getElem?_range hil] at hj; exact hj.symm
  subst hji
  rw [h1]; exact ⟨rfl, hil⟩
 refine ⟨some a, len, cap, els, rfl, hl, by simp [els], hk, fun i el he => ⟨a, rfl, ?_⟩, fun el he => ?_⟩
 ·have h1 := World.cells?_some (hels i el he).1
  exact ⟨h1.2.1, fun j v hj => by rw [h1.2.2 j (by rw [← h1.2.1]; exact (List.getElem?_eq_some_iff.1 hj).1)]; exact hj⟩
 obtain ⟨i, hi⟩ := List.getElem?_of_mem he
 obtain ⟨h1, h2⟩ := hels i el hi
 obtain ⟨el', y, h3, h4, h5⟩ := bF i h2
 rw [h1] at h3; injection h3 with h3; subst h3
 refine ⟨n, y.1, y.2, h5, helem _ (.inl (List.mem_map.2 ⟨y, List.mem_of_getElem? h4, rfl⟩))⟩
theorem hash_of {n : Nat} {e : TypeId} {w : World} (hu : P.underlying e = some (.int .u8)) (hl : cs.length = n) (hel : ∀ (i : Nat) (v : Value), cs[i]? = some v → ∃ m d' p', DataW.trod enc P w 0 (fun _ => true) held m e [v] = some (d', p')) : ∃ h : List UInt8, cs = h.map u8v ∧ h.length = n := by
 refine ⟨cs.map fun v => match v with | .int _ z => UInt8.ofNat z.toNat | _ => 0, ?_, by rw [List.length_map, hl]⟩
 rw [List.map_map]
 apply List.ext_getElem?
 intro i
 rw [List.getElem?_map]
 cases h : cs[i]? with
 | none => rfl
 | some v =>
  obtain ⟨m, d', p', ht⟩ := hel i v h
  obtain ⟨z, e1, hw⟩ := gY hu ht
  simp only [List.cons.injEq, and_true] at e1
  subst e1
  simp only [Option.map_some, Function.comp_def]
  rw [u8v_of hw]
theorem kS {n : Nat} {e : TypeId} (hu : P.underlying t = some (.array n e)) (he : P.underlying e = some (.int .u8)) (hc : P.cellsOf e = 1) (hn : P.cellsOf t = n) (h : DataW.trod enc P w 0 (fun _ => true) held fuel t cs = some (d, p)) (hz : Light P t d) :
  ∃ h : List UInt8, cs = h.map u8v ∧ h.length = n := by
 obtain ⟨hl, hel⟩ := mn hu hc hn h hz
 exact hash_of (enc := enc) (held := held) (w := w) he hl (fun i v hv => by obtain ⟨m, d', p', h1, _⟩ := hel i v hv; exact ⟨m, d', p', h1⟩)
theorem tr_two {c : Nat} {e : TypeId} (hu : P.underlying t = some (.array 2 e)) (hc : P.cellsOf e = c) (hn : P.cellsOf t = 2 * c) (h : DataW.trod enc P w 0 (fun _ => true) held fuel t cs = some (d, p)) (hz : Light P t d) :
  ∃ a b, cs = a ++ b ∧ a.length = c ∧ b.length = c ∧ (∃ m d' p', DataW.trod enc P w 0 (fun _ => true) held m e a = some (d', p') ∧ Light P e d') ∧ ∃ m d' p', DataW.trod enc P w 0 (fun _ => true) held m e b = some (d', p') ∧ Light P e d' := by
 obtain ⟨xs, m, rfl, hx, hl, hxl, hel⟩ := DataW.trod_array hu h
 rw [hn] at hl
 injection hx with hd _
 subst hd
 have h0 := hel 0 (by omega); have h1 := hel 1 (by omega)
 rw [hc, Nat.zero_mul, List.drop_zero] at h0
 rw [hc, Nat.one_mul] at h1
 have h0x : 0 < xs.length := by omega
 have h1x : 1 < xs.length := by omega
 rw [List.getElem?_eq_getElem h0x] at h0
 rw [List.getElem?_eq_getElem h1x] at h1
 have e1 : (cs.drop c).take c = cs.drop c := List.take_of_length_le (by rw [List.length_drop]; omega)
 rw [e1] at h1
 exact ⟨cs.take c, cs.drop c, (List.take_append_drop c cs).symm, by rw [List.length_take]; omega, by rw [List.length_drop]; omega, ⟨m, xs[0].1, xs[0].2, h0, hz.parts hu _ (List.mem_map.2 ⟨_, List.getElem_mem h0x, rfl⟩)⟩, ⟨m, xs[1].1, xs[1].2, h1, hz.parts hu _ (List.mem_map.2 ⟨_, List.getElem_mem h1x, rfl⟩)⟩⟩
theorem gc {n : Nat} {r : Reach} {b : Nat} {v : Value} {e : TypeId} (ht : P.underlying t = some (.array n e)) (h : Value.okWide P w r b t v) : ∃ cs, v = .agg cs := by
 simp only [Value.okWide, ht] at h
 obtain ⟨cs, h1, h2, _⟩ := h
 exact ⟨cs, h1⟩
end
theorem sg {P : Program} {W : World} {name : String} {zs : List Int} {g : Nat} {xs : List (BitVec 32)} {m : Nat} (h : Lib.TabIs P W name .u32 zs) (hg : P.globalNamed name = some g) (hx : xs.map (fun x => (x.toNat : Int)) = zs) (hm : xs.length = m) : Sl W (fun k => k = g) aO (some ⟨g, 0, none⟩) m m xs := by
 subst hx
 refine ⟨.inr ⟨g, 0, rfl, rfl, fun j u hj => ?_⟩, hm, Nat.le_refl _⟩
 rw [List.getElem?_map] at hj
 obtain ⟨y, hy, rfl⟩ := Option.map_eq_some_iff.1 hj
 have hjl : j < xs.length := (List.getElem?_eq_some_iff.1 hy).1
 rw [Nat.zero_add, h.cell hg j (by rw [List.length_map]; exact hjl)]
 simp [List.getD, hy]
end Go.Gx
namespace Go.Gx
open Go.RowKit
section
variable {P : Program} {S : World → Prop} {n : Nat} {e : Env} {dst : Option Tmp} {rt : TypeId} {pos : String} {af : Array Edge} {gd : Option (Nat × Bool)}
end
end Go.Gx
namespace Go.Gx
open Go.RowKit
abbrev ptr (b : Nat) : Value := .pointer (some ⟨b, 0, none⟩)
abbrev KE := Nat × Nat × Nat
def qt (e : KE) : MapEntry := ⟨i64 (e.1 : Int), ptr e.2.1, e.2.2⟩
def Born (l : List KE) (clock : Nat) : Prop := (l.map (·.2.2)).Nodup ∧ ∀ e ∈ l, e.2.2 < clock
theorem Born.nil : Born [] 0 := ⟨List.nodup_nil, fun _ h => by cases h⟩
theorem Born.push {l : List KE} {c k b : Nat} (h : Born l c) : Born (l ++ [(k, b, c)]) (c + 1) := by
 refine ⟨?_, fun e he => ?_⟩
 ·rw [List.map_append, List.nodup_append]
  refine ⟨h.1, by simp, fun a ha b' hb => ?_⟩
  obtain ⟨e, he, rfl⟩ := List.mem_map.1 ha
  have := h.2 e he
  simp at hb
  omega
 rcases List.mem_append.1 he with he | he
 ·have := h.2 e he; omega
 simp at he; subst he; simp
theorem Born.filter {l : List KE} {c : Nat} {f : KE → Bool} (h : Born l c) : Born (l.filter f) c :=
 ⟨h.1.sublist (List.filter_sublist.map _), fun e he => h.2 e (List.mem_filter.1 he).1⟩
def KV (w : World) (g : Nat) (l : List KE) (clock : Nat) : Prop := w.heap[g]? = some (.map (l.map qt).toArray clock) ∧ Born l clock
section
variable {w w' : World} {g : Nat} {l : List KE} {clock : Nat} {T : Nat → Prop}
theorem KV.lt (h : KV w g l clock) : g < w.heap.size := by
 rcases Nat.lt_or_ge g w.heap.size with hlt | hge
 ·exact hlt
 have h := h.1; rw [Array.getElem?_eq_none hge] at h; cases h
theorem KV.ch (h : KV w g l clock) (c : Ch T w w') (hn : ¬ T g) : KV w' g l clock := ⟨(c.block g h.lt hn).trans h.1, h.2⟩
end
theorem sh {a b : KE} (h : qt a = qt b) : a = b := by
 obtain ⟨k, p, c⟩ := a
 obtain ⟨k', p', c'⟩ := b
 simp only [qt, MapEntry.mk.injEq, Value.int.injEq, true_and, Value.pointer.injEq, Option.some.injEq, Addr.mk.injEq, and_true] at h
 obtain ⟨e1, e2, e3⟩ := h
 have e1' : k = k' := by omega
 subst e1' e2 e3; rfl
theorem ge : ∀ {l l' : List KE}, l.map qt = l'.map qt → l = l'
 | [], [], _ => rfl
 | [], _ :: _, h => by simp at h
 | _ :: _, [], h => by simp at h
 | a :: l, b :: l', h => by
  simp only [List.map_cons, List.cons.injEq] at h
  rw [sh h.1, ge h.2]
theorem KV.inj {w : World} {g : Nat} {l l' : List KE} {c c' : Nat} (h : KV w g l c) (h' : KV w g l' c') : l = l' ∧ c = c' := by
 have h := h.1
 have h' := h'.1
 rw [h] at h'
 injection h' with h'
 injection h' with h1 h2
 exact ⟨ge (by simpa using h1), h2⟩
theorem KV.split {l : List KE} {k b : Nat} (h : ∃ c, (k, b, c) ∈ l) (hnd : (l.map (·.1)).Nodup) : ∃ c l1 l2, l = l1 ++ (k, b, c) :: l2 ∧ (∀ e ∈ l1, e.1 ≠ k) ∧ ∀ e ∈ l2, e.1 ≠ k := by
 obtain ⟨c, hc⟩ := h
 obtain ⟨l1, l2, rfl⟩ := List.append_of_mem hc
 rw [List.map_append, List.map_cons, List.nodup_append] at hnd
 obtain ⟨h1, h2, h3⟩ := hnd
 rw [List.nodup_cons] at h2
 refine ⟨c, l1, l2, rfl, fun e he e1 => ?_, fun e he e1 => ?_⟩
 ·exact h3 e.1 (List.mem_map.2 ⟨e, he, rfl⟩) k (by simp) e1
 exact h2.1 (List.mem_map.2 ⟨e, he, e1⟩)
section
variable {P : Program} {Q : Exit → Act → World → Prop} {S : World → Prop} {n : Nat} {e : Env} {w : World} {rt : TypeId} {pos : String} {af : Array Edge} {gd : Option (Nat × Bool)} {d : Nat} {dst : Option Tmp} {K : Env → World → Prop}
theorem nK {o : Oper} {v : Value} {w' : World} (hd : o.dst = none) (hr : ∀ a, Fr n a e → (execOp a.eval o).run P w = .ok (.value v) w') (k : K e w') : OpE P n o e w Q K := fun a F => .inl (by
 simp only [Oper.wp, hr a F, Oper.upon, hd]
 exact ⟨_, F, k⟩)
theorem p_lookR {t : TypeId} {x i : Operand} {m k v : Value} (hx : ev e x = some m) (hi : ev e i = some k) (hr : ∀ w, S w → (Instr.lookup t m k false).run P w = .ok v w) : Pu P S n ⟨dst, .lookup t x i false, rt, pos, af, gd⟩ e v := fun a F w hw => by
 simp [execOp, F.ev hx, F.ev hi, hr w hw]
theorem nL {o : Obj} {g : Nat} : Ch (fun k => k = g) w { w with heap := w.heap.setIfInBounds g o } := ⟨rfl, rfl, rfl, by simp, fun k _ hn => by simp [Array.getElem?_setIfInBounds_ne (Ne.symm hn)]⟩
theorem kT {t : TypeId} (hlt : Nat.blt d n = true) (kk : ∀ w' g, g = w.heap.size → KV w' g [] 0 → Ch No w w' → w'.heap.size = g + 1 → K ((d, .map (some g)) :: e) w') : OpE P n ⟨some d, .makeMap t none, rt, pos, af, gd⟩ e w Q K := by
 refine bl rfl hlt (w' := w.alloc (.map #[] 0)) (v := .map (some w.heap.size)) (fun a F => ?_) (kk _ _ rfl ⟨heap_alloc_new w _, Born.nil⟩ (Ch.alloc w _) (by simp))
 simp [execOp, Instr.makeMap, newObj, Sem.run]
def IT (w : World) (r m : Nat) (seen : List KE) (clock : Nat) : Prop := w.heap[r]? = some (.mapIter (some m) clock (seen.map (·.2.2)).toArray clock)
theorem IT.lt {w : World} {r m clock : Nat} {seen : List KE} (h : IT w r m seen clock) : r < w.heap.size := by
 rcases Nat.lt_or_ge r w.heap.size with hlt | hge
 ·exact hlt
 unfold IT at h; rw [Array.getElem?_eq_none hge] at h; cases h
theorem IT.ch {w w' : World} {T : Nat → Prop} {r m clock : Nat} {seen : List KE} (h : IT w r m seen clock) (c : Ch T w w') (hn : ¬ T r) : IT w' r m seen clock := (c.block r h.lt hn).trans h
end
end Go.Gx
namespace Go.Gx
open Go.RowKit
abbrev Mk (b : Nat) : List Deferred := [{ target := .collected b, args := #[] }]
def WLd (P : Program) (ops : Array Oper) (Q : Exit → Act → World → Prop) (n : Nat) (ds : List Deferred) (l : List Oper) (e : Env) (w : World) : Prop := ∀ a, FrD n ds a e → wpList P ops Q l a w
def WCd (P : Program) (Q : Exit → Act → World → Prop) (n : Nat) (ds : List Deferred) (c : Code) (e : Env) (w : World) : Prop := ∀ a, FrD n ds a e → c.wp P Q a w
def WQd (Q : Exit → Act → World → Prop) (n : Nat) (ds : List Deferred) (x : Exit) (e : Env) (w : World) : Prop := ∀ a, FrD n ds a e → Q x a w
section
variable {P : Program} {ops : Array Oper} {Q : Exit → Act → World → Prop} {n : Nat} {ds : List Deferred} {e : Env} {w : World} {rest : List Oper} {o : Oper} {a : Act}
theorem FrD.bare (F : FrD n ds a e) : Fr n { a with defers := [] } e := ⟨F.size, rfl, F.get⟩
theorem FrD.of_put {d : Option Tmp} {v : Value} {e' : Env} (hds : a.defers = ds) (h : Fr n (({ a with defers := [] } : Act).put d v) e') : FrD n ds (a.put d v) e' := by
 cases d with
 | none => exact ⟨h.size, hds, h.get⟩
 | some d => exact ⟨h.size, hds, h.get⟩
theorem FrD.put (F : FrD n ds a e) {d : Nat} (hd : Nat.blt d n = true) (v : Value) : FrD n ds (a.put (some d) v) ((d, v) :: e) := FrD.of_put F.defs (F.bare.put hd v)
theorem nM {x : Exit} (h : WQd Q n ds x e w) (F : FrD n ds a e) : Q x a w := h a F
theorem wld {d : Nat} {v : Value} (hg : o.guard = none) (hd : o.dst = some d) (hlt : Nat.blt d n = true) (hp : Pu P (· = w) n o e v) (k : WLd P ops Q n ds rest ((d, v) :: e) w) : WLd P ops Q n ds (o :: rest) e w := by
 intro a F
 refine wpList_plain hg fun K hK => ?_
 have hr : (execOp a.eval o).run P w = .ok (.value v) w := hp _ F.bare w rfl
 simp only [Oper.wp, hr, Oper.upon, hd]
 exact hK _ _ (k _ (F.put hlt v))
theorem wlde0 {K : Env → World → Prop} (hg : o.guard = none) (h : OpE P n o e w (fun _ _ _ => False) K) (k : ∀ e' w', K e' w' → WLd P ops Q n ds rest e' w') : WLd P ops Q n ds (o :: rest) e w := by
 intro a F
 unfold wpList
 rw [if_pos (by simp [Region.wanted, hg])]
 left
 rcases h _ F.bare with h | h
 ·have h' : o.upon P { a with defers := [] } (fun a' w' => ∃ e', Fr n a' e' ∧ K e' w') (fun _ _ _ => False) ((execOp a.eval o).run P w) := h
  show o.upon P a (wpList P ops Q rest) Q ((execOp a.eval o).run P w)
  revert h'
  generalize (execOp a.eval o).run P w = r
  intro h'
  have fin : ∀ (v : Value) (w' : World), (∃ e', Fr n (({ a with defers := [] } : Act).put o.dst v) e' ∧ K e' w') → wpList P ops Q rest (a.put o.dst v) w' := fun v w' ⟨e', F', hK⟩ => k e' w' hK _ (FrD.of_put F.defs F')
  cases r with
  | halt x w' => cases x <;> simp only [Oper.upon] at h' ⊢
  | ok nx w' =>
   cases nx with
   | value v => exact fin v w' h'
   | skip => exact fin undef w' h'
   | enter f args =>
    refine Calls.mono (show Calls P f args w' _ from h') fun ed w2 hed => ?_
    cases ed with
    | returned v => exact fin v w2 hed
    | panicked ch => exact hed.elim
    | outgrown => obtain ⟨_, _, hf⟩ := hed; exact hf.elim
   | row r args =>
    obtain h' : Rows P r args w' fun v w'' => ∃ e', Fr n (({ a with defers := [] } : Act).put o.dst v) e' ∧ K e' w'' := h'
    intro c cs
    obtain ⟨v, w2, hr, hs⟩ := h' c cs
    exact ⟨v, w2, fin v w2 hr, hs⟩
   | defer d =>
    obtain ⟨e', F', _⟩ := h'
    have hdf := F'.defs
    cases ho : o.dst with
    | none => rw [ho] at hdf; exact absurd hdf (by simp [Act.put])
    | some t => rw [ho] at hdf; exact absurd hdf (by simp [Act.put])
   | _ => simp only [Oper.upon] at h'
 obtain ⟨_, _, hf⟩ := h.2; exact hf.elim
theorem wlde (hg : o.guard = none) (h : OpE P n o e w (fun _ _ _ => False) (fun e' w' => WLd P ops Q n ds rest e' w')) : WLd P ops Q n ds (o :: rest) e w := wlde0 hg h (fun _ _ h => h)
theorem kU (h : WQd Q n ds .normal e w) : WLd P ops Q n ds [] e w := fun a F => h a F
theorem kV {x y : Code} (h : WCd P (Exit.then (NX P Q y) Q) n ds x e w) : WCd P Q n ds (.seq x y) e w := fun a F => wp_seq (h a F)
theorem fP {id : Nat} {l : List Oper} (h : WLd P l.toArray Q n ds l e w) : WCd P Q n ds (.region id l.toArray false) e w := fun a F => wp_region_lit (h a F)
theorem kW (h : WQd Q n ds .ret e w) : WCd P Q n ds .ret e w := fun a F => wp_ret (h a F)
theorem gZ {y : Code} {Q' : Exit → Act → World → Prop} (h : WCd P Q n ds y e w) : WQd (Exit.then (NX P Q y) Q') n ds .normal e w := h
theorem ep {i : Nat} (h : WQd Q n ds .normal e w) : WQd (Exit.inBlock i Q) n ds .normal e w := h
theorem gg {fn : Func} {R : Ending → World → Prop} {b : Nat} (hK : w.heap[b]? = some (.deferred (some []))) (k : ∀ w', Ch (fun k => k = b) w w' → w'.heap.size = w.heap.size → ∃ v, (∀ a, Fr n a e → (results fn a.tmps).run P w' = .ok v w') ∧ R (.returned v) w') : WQd (bodyPostM Fence.wide 1 P fn R) n (Mk b) .ret e w := by
 intro a F
 have c := dv w b (.deferred none)
 obtain ⟨v, h1, h2⟩ := k _ c (by simp [World.putObj])
 show LeavesInM Fence.wide 1 P fn a.tmps R a.defers .returning w
 rw [F.defs]
 exact ⟨by simp, .inl ⟨_, _, rfl, run_takeDeferred hK, v, h1 { a with defers := [] } F.bare, h2⟩⟩
theorem bN {fn : Func} {R : Ending → World → Prop} {v : Value} (hr : ∀ a, Fr n a e → (results fn a.tmps).run P w = .ok v w) (h : R (.returned v) w) : WQ (bodyPostM Fence.wide 1 P fn R) n .ret e w := by
 intro a F
 show LeavesInM Fence.wide 1 P fn a.tmps R a.defers .returning w
 rw [F.defs]
 exact ⟨v, hr a F, h⟩
end
end Go.Gx
namespace Go.Gx
open Go.RowKit
section
variable {w w' : World} {T F G : Nat → Prop} {g g' : Nat} {t : TypeId} {cs : Array Value} {A : Option Addr} {l c : Nat}
theorem Blk.no (h : Blk w g t cs) (k : Ch No w w') : Blk w' g t cs := h.ch k (fun h => h)
theorem Blk.cc (h : Blk w g t cs) (k : Ch (fun k => k = g') w w') (hn : g ≠ g' := by omega) : Blk w' g t cs := h.ch k hn
theorem Sl.cc {α : Type} {f : α → Value} {xs : List α} (h : Sl w F f A l c xs) (k : Ch T w w') (hn : ∀ i, F i → ¬ T i := by first | exact fun _ _ h => h | (intro k hk ht; first | omega | (dsimp only at *; omega))) : Sl w' F f A l c xs := h.ch k hn
theorem Sl.cT {α : Type} {f : α → Value} {xs : List α} (h : Sl w F f A l c xs) (k : Ch T w w') (hn : ∀ i, i < w.heap.size → F i → ¬ T i := by intro k hz hk ht; first | omega | (dsimp only at *; omega)) : Sl w' (fun i => F i ∧ i < w.heap.size) f A l c xs := h.chT k hn
theorem SI.cc {α : Type} {E : Enc α} {xs : List α} (h : SI w F E A l c xs) (k : Ch T w w') (hn : ∀ i, F i → ¬ T i := by first | exact fun _ _ h => h | (intro k hk ht; first | omega | (dsimp only at *; omega))) : SI w' F E A l c xs := h.ch k hn
theorem SI.cT {α : Type} {E : Enc α} {xs : List α} (h : SI w F E A l c xs) (k : Ch T w w') (hn : ∀ i, i < w.heap.size → F i → ¬ T i := by intro k hz hk ht; first | omega | (dsimp only at *; omega)) : SI w' (fun i => F i ∧ i < w.heap.size) E A l c xs := h.chT k hn
theorem SB.cc {q : List (List UInt8)} (h : SB w F A l c q) (k : Ch T w w') (hn : ∀ i, F i → ¬ T i := by first | exact fun _ _ h => h | (intro k hk ht; first | omega | (dsimp only at *; omega))) : SB w' F A l c q := h.ch k hn
theorem SB.cT {q : List (List UInt8)} (h : SB w F A l c q) (k : Ch T w w') (hn : ∀ i, i < w.heap.size → F i → ¬ T i := by intro k hz hk ht; first | omega | (dsimp only at *; omega)) : SB w' (fun i => F i ∧ i < w.heap.size) A l c q := h.chT k hn
theorem Ch.geo {a b : World} {g : Nat} (h : Ch T a b) (hg : g = b.heap.size) : a.heap.size ≤ g := hg ▸ h.size
theorem Ch.n {U : Nat → Prop} {a b c : World} (h : Ch T a b) (k : Ch U b c) (hn : ∀ i, i < a.heap.size → U i → False := by intro k hk ht; omega) : Ch T a c := h.trans k (fun _ _ h => h) (fun k hk ht => (hn k hk ht).elim)
variable {P : Program} {Q : Exit → Act → World → Prop} {ops : Array Oper} {n : Nat} {e : Env}
variable {o : Oper} {rest : List Oper} {d : Nat} {v : Value} {x : Operand} {rt : TypeId} {pos : String} {af : Array Edge} {gd : Option (Nat × Bool)} {dst : Option Nat}
theorem wz (hp : Pu P (· = w) n o e v) (k : WL P ops Q n rest ((d, v) :: e) w) (hg : o.guard = none := by rfl) (hd : o.dst = some d := by rfl) (hlt : Nat.blt d n = true := by rfl) : WL P ops Q n (o :: rest) e w := wl hg hd hlt hp k
theorem wmv (k : WL P ops Q n rest ((d, v) :: e) w) (hx : ev e x = some v := by rfl) (hlt : Nat.blt d n = true := by rfl) : WL P ops Q n (⟨some d, .move x, rt, pos, af, none⟩ :: rest) e w := wl rfl rfl hlt (aS hx) k
theorem was (k : WL P ops Q n rest ((d, v) :: e) w) (hx : ev e x = some v := by rfl) (hlt : Nat.blt d n = true := by rfl) : WL P ops Q n (⟨some d, .assign x, rt, pos, af, none⟩ :: rest) e w := wl rfl rfl hlt (jb hx) k
theorem aB {l : OT} {w0 : World} (hc : Ch No w0 w) (k : WS P ops Q (fun x => Ch No w x) n l e w) : WS P ops Q (fun x => Ch No w0 x) n l e w := gU (S' := fun x => Ch No w x) (Ch.refl _ _) (fun x h => hc.tr h) k
theorem wdr {id : Nat} (l : OT) (tau : Nat) (U : Nat → Prop) (k : ∀ w', Ch No w w' → w'.heap.size = w.heap.size → WS P ops Q (fun x => Ch U w' x) n l e w') (hm : P.follows .mixedOrders = true := by kernel_rfl) (hs : Region.noSelect ops = true := by kernel_rfl) (hc : (bm .any ops tau l true (Array.replicate ops.size false) && Nat.beq l.len ops.size) = true := by kernel_rfl) (hQ : eG Q := by repeat (first | with_reducible exact cQ | with_reducible apply cP | with_reducible apply em)) : WC P Q n (.region id ops true) e w :=
 dc l tau hm hs hc hQ (fun x => Ch U w.drew x) (Ch.refl _ _) (k w.drew (Ch.drew _) rfl)
theorem pfl {S : World → Prop} {s : TypeId} {i b o : Nat} {fs : Array Field} {f : Field} (j : Nat) (hs : P.underlying s = some (.struct fs)) (hf : fs[i]? = some f := by rfl) (hz : ∃ m, (P.info? f.type).map (·.size) = some (m + 1) := by exact ⟨_, by rfl⟩) (hx : ev e x = some (.pointer (some ⟨b, o, none⟩)) := by rfl) (hj : f.offset = j := by rfl) : Pu P S n ⟨dst, .fieldAddr s x i, rt, pos, af, gd⟩ e (.pointer (some ⟨b, o + j, none⟩)) := dE hs hf hz hx hj
theorem aC {t u : TypeId} {D : TypeDesc} {i : Nat} (hd : P.underlying t = some D) (hb : Blk w g u cs) (hf : cj D = true := by rfl) (hx : ev e x = some (.pointer (some ⟨g, i, none⟩)) := by rfl) (hv : cs[i]? = some v := by rfl) : Pu P (· = w) n ⟨dst, .load t x, rt, pos, af, gd⟩ e v := aE hd hf hx (ld (hb.cell hv))
theorem gq {o oj : Oper} {j d : Nat} {want r : Bool} {v : Value} (hg : o.guard = some (j, want) := by rfl) (hj : ops[j]? = some oj := by rfl) (hd : oj.dst = some d := by rfl) (hlt : Nat.blt d n = true := by rfl) (hl : look d e = some v := by rfl) (hr : (match v with | .bool b => b == want | _ => false) = r := by rfl) : ∀ a, Fr n a e → Region.wanted o (yielded ops a.tmps) = r := gd_ hg hj hd hlt hl hr
end
end Go.Gx
namespace Go.Gx
open Go.RowKit
section
variable {P : Program} {ops : Array Oper} {Q : Exit → Act → World → Prop} {n m : Nat} {ro : Option Nat} {e : Env} {w : World}
end
section
variable {P : Program} {Q : Exit → Act → World → Prop} {n m : Nat} {e : Env} {w : World}
end
end Go.Gx
namespace Go.Plain
open Go.Gx
def be (x : Nat) : List UInt8 := if h : x = 0 then [] else be (x / 256) ++ [UInt8.ofNat x]
termination_by x
theorem fw : be 0 = [] := by rw [be]; simp
theorem jn {x : Nat} (h : 0 < x) : be x = be (x / 256) ++ [UInt8.ofNat x] := by rw [be]; rw [dif_neg (by omega)]
def bO (x : Nat) : List UInt8 := if x < 248 then [UInt8.ofNat x] else UInt8.ofNat (247 + (be x).length) :: be x
theorem fQ {x : Nat} (h : x < 248) : bO x = [UInt8.ofNat x] := by rw [bO, if_pos h]
theorem fR {x : Nat} (h : 248 ≤ x) : bO x = UInt8.ofNat (247 + (be x).length) :: be x := by rw [bO, if_neg (by omega)]
theorem be_le : ∀ (k x : Nat), x < 256 ^ k → (be x).length ≤ k := by
  intro k
  induction k with
  | zero => intro x h; have : x = 0 := by simpa using h
            subst this; simp [fw]
  | succ k ih =>
    intro x h
    by_cases h0 : x = 0
    · subst h0; simp [fw]
    rw [jn (by omega), List.length_append, List.length_singleton]
    have := ih (x / 256) (by rw [Nat.div_lt_iff_lt_mul (by omega), ← Nat.pow_succ]; exact h)
    omega
theorem kX {x : Nat} (h : x < 18446744073709551616) : (be x).length ≤ 8 := be_le 8 x (by simpa using h)
theorem eX {x : Nat} (h : x < 18446744073709551616) : (bO x).length ≤ 9 := by
 unfold bO
 split
 ·simp
 have := kX h; simp; omega
theorem set_rep (m : Nat) (r : List UInt8) (x : UInt8) : (List.replicate (m + 1) (0 : UInt8) ++ r).set m x = List.replicate m 0 ++ x :: r := by
 induction m with
 | zero => rfl
 | succ m ih => rw [List.replicate_succ, List.cons_append, List.set_cons_succ, ih, List.replicate_succ, List.cons_append]
theorem sj (m : Nat) (r : List UInt8) : (List.replicate m (0 : UInt8) ++ r).drop m = r := by
 rw [List.drop_append_of_le_length (by simp), List.drop_of_length_le (by simp), List.nil_append]
def val (l : List UInt8) : Nat := l.foldl (fun n x => n * 256 + x.toNat) 0
theorem sk (l : List UInt8) (x : UInt8) : val (l ++ [x]) = val l * 256 + x.toNat := by simp [val]
theorem val_be (x : Nat) : val (be x) = x := by
 induction x using Nat.strongRecOn with
 | _ x ih =>
  by_cases h : x = 0
  ·subst h; rw [fw]; rfl
  rw [jn (by omega), sk, ih (x / 256) (by omega)]
  have : (UInt8.ofNat x).toNat = x % 256 := by simp
  rw [this]; omega
def gn (b : List UInt8) : Option (Nat × Nat) :=
 if b.length = 0 then none
 else if (b.getD 0 0).toNat < 248 then some ((b.getD 0 0).toNat, 1)
 else if b.length ≤ (b.getD 0 0).toNat - 247 ∨ (b.getD 1 0).toNat = 0 then none
 else if val ((b.drop 1).take ((b.getD 0 0).toNat - 247)) < 248 then none
 else some (val ((b.drop 1).take ((b.getD 0 0).toNat - 247)), 1 + ((b.getD 0 0).toNat - 247))
def cS (s : ByteArray) : List UInt8 := bO s.size ++ s.data.toList
theorem dG (s : ByteArray) : (cS s).length = (bO s.size).length + s.size := by
 have e : s.data.toList.length = s.size := Array.length_toList
 rw [cS, List.length_append, e]
theorem mo {s : ByteArray} (h : s.size < 18446744073709551616) : (cS s).length ≤ s.size + 9 := by
 have := eX h
 unfold cS
 have e : s.data.toList.length = s.size := Array.length_toList
 rw [List.length_append, e]
 omega
def gs (b : List UInt8) (most : Int) : Option (List UInt8 × Nat) :=
 match gn b with
 | none => none
 | some (n, k) => if most.toNat < n ∨ b.length - k < n then none else some ((b.drop k).take n, k + n)
def glk (b : List UInt8) (most : Int) (a : Nat) : Nat → Option (List ByteArray × Nat)
 | 0 => some ([], a)
 | k + 1 => match glk b most a k with
  | none => none
  | some (l, i) => match gs (b.drop i) most with
   | none => none
   | some (s, j) => some (l ++ [⟨s.toArray⟩], i + j)
def gl (b : List UInt8) (count most : Int) : Option (List ByteArray × Nat) :=
 match gn b with
 | none => none
 | some (n, k) => if count.toNat < n then none else glk b most k n
theorem iF (s : ByteArray) : s.toList = s.data.toList := Go.ByteArray.toList_eq s
theorem eY {s u : ByteArray} (h : (s.toList == u.toList) = true) : s = u := by
 rw [iF, iF] at h
 have := eq_of_beq h
 cases s; cases u; simp at this; rw [this]
theorem fS {s u : ByteArray} (h : s = u) : (s.toList == u.toList) = true := by rw [h]; exact beq_self_eq_true _
theorem oW (s u : ByteArray) : (s.toList == u.toList) = decide (s = u) := by
 by_cases h : s = u
 ·rw [decide_eq_true h, fS h]
 rw [decide_eq_false h]
 cases hb : (s.toList == u.toList) with
 | false => rfl
 | true => exact absurd (eY hb) h
theorem jo {s u : ByteArray} (h : (!(s.toList == u.toList)) = true) : s ≠ u := fun e => by rw [fS e] at h; cases h
theorem dq {s u : ByteArray} (h : (!(s.toList == u.toList)) = false) : s = u := eY (by simpa using h)
end Go.Plain
namespace Go.Plain
section
variable {a b : List UInt8}
end
/-! ### By bytes -/
def lenT : List UInt8 := (List.range 256).map fun x => UInt8.ofNat (if x = 0 then 0 else Nat.log2 x + 1)
section
variable {a b : List UInt8}
theorem xor_zero {x y : UInt8} (h : x ^^^ y = 0) : x = y := by
 have := congrArg (· ^^^ y) h
 simpa [UInt8.xor_assoc] using this
end
end Go.Plain
namespace Go.Plain
open Go.Gx
theorem be_head {x : Nat} : 0 < x → ∃ y t, be x = y :: t ∧ y.toNat ≠ 0 := by
 induction x using Nat.strongRecOn with
 | _ x ih =>
  intro h
  rw [jn h]
  by_cases h0 : x / 256 = 0
  ·rw [h0, fw]
   exact ⟨UInt8.ofNat x, [], rfl, by simp; omega⟩
  obtain ⟨y, t, e, hy⟩ := ih (x / 256) (by omega) (by omega)
  exact ⟨y, t ++ [UInt8.ofNat x], by rw [e]; rfl, hy⟩
theorem sm {x : Nat} (h : x < 18446744073709551616) (r : List UInt8) : gn (bO x ++ r) = some (x, (bO x).length) := by
 by_cases hx : x < 248
 ·rw [fQ hx]
  have e : (UInt8.ofNat x).toNat = x := by simp; omega
  simp only [gn, List.cons_append, List.nil_append, List.getD_cons_zero, List.length_cons, e]
  rw [if_neg (by omega), if_pos hx]
  rfl
 obtain ⟨y, t, hb, hy⟩ := be_head (x := x) (by omega)
 have hl := kX h
 have hv := val_be x
 have hpos : 0 < (be x).length := by rw [hb]; simp
 rw [fR (by omega)]
 have e : (UInt8.ofNat (247 + (be x).length)).toNat = 247 + (be x).length := by simp; omega
 have e1 : (be x ++ r).take (247 + (be x).length - 247) = be x := by rw [show 247 + (be x).length - 247 = (be x).length by omega, List.take_left']; rfl
 have e2 : (UInt8.ofNat (247 + (be x).length) :: (be x ++ r)).getD 1 0 = y := by rw [hb]; rfl
 simp only [gn, List.cons_append, List.getD_cons_zero, List.length_cons, e, List.drop_succ_cons, List.drop_zero, e1, hv, e2]
 rw [if_neg (by omega), if_neg (by omega), if_neg (by rw [List.length_append]; omega), if_neg (by omega)]
 simp; omega
theorem ofNat_toNat (x : UInt8) : UInt8.ofNat x.toNat = x := by simp
/-! ### Order -/
/-! ### What a reading is, written again -/
end Go.Plain
namespace Go.Plain
open Go.Gx
end Go.Plain
namespace Go.Plain
open Go.Gx
end Go.Plain
namespace Go.Plain
open Go.Gx
end Go.Plain
namespace Go.Gx
open Go.RowKit Go.Plain
abbrev Pr := ByteArray × ByteArray × Bool
abbrev Pr0 : Pr := (ByteArray.empty, ByteArray.empty, false)
def ePR : Enc Pr where
 n := 3
 pos := by decide
 f x := [.string x.1, .string x.2.1, .bool x.2.2]
 ok x := x.1.size ≤ 140737488351232 ∧ x.2.1.size ≤ 140737488351232
 len _ _ := rfl
 one x := cO rfl
structure RD where
 sc : Bool
 key : ByteArray
 to : ByteArray
 A : Option Addr
 l : Nat
 c : Nat
 ps : List Pr
def RD0 : RD := ⟨false, ByteArray.empty, ByteArray.empty, none, 0, 0, []⟩
abbrev RA := Bool × ByteArray × ByteArray × List Pr
instance decPr : DecidableEq Pr := inferInstance
instance decPrs : DecidableEq (List Pr) := inferInstance
instance decRA2 : DecidableEq (ByteArray × List Pr) := @instDecidableEqProd _ _ inferInstance decPrs
instance decRA1 : DecidableEq (ByteArray × ByteArray × List Pr) := @instDecidableEqProd _ _ inferInstance decRA2
instance decRA : DecidableEq RA := @instDecidableEqProd _ _ inferInstance decRA1
instance decRAs : DecidableEq (List RA) := inferInstance
def RD.abs (x : RD) : RA := (x.sc, x.key, x.to, x.ps)
def eRD : Enc RD where
 n := 4
 pos := by decide
 f x := [.bool x.sc, .string x.key, .string x.to, .slice x.A x.l x.c]
 ok x := x.key.size ≤ 140737488351232 ∧ x.to.size ≤ 140737488351232 ∧ x.l ≤ 140737488351232
 len _ _ := rfl
 one x := cO rfl
def NS (w : World) (F : Nat → Prop) (xs : List RD) : Prop := ∀ x ∈ xs, SI w F ePR x.A x.l x.c x.ps
section
variable {w w' : World} {T F G : Nat → Prop} {xs : List RD}
theorem NS.ch (h : NS w F xs) (k : Ch T w w') (hn : ∀ i, F i → ¬ T i) : NS w' F xs := fun x hx => (h x hx).ch k hn
theorem NS.old (h : NS w F xs) : NS w (fun k => k < w.heap.size) xs := fun x hx => (h x hx).old
theorem NS.get (h : NS w F xs) {i : Nat} (hi : i < xs.length) : SI w F ePR (xs.getD i RD0).A (xs.getD i RD0).l (xs.getD i RD0).c (xs.getD i RD0).ps := by
 refine h _ ?_
 simp [List.getD, List.getElem?_eq_getElem hi]
theorem NS.get' (h : NS w F xs) {i : Nat} {x : RD} (e : x = xs.getD i RD0) (hi : i < xs.length) : SI w F ePR x.A x.l x.c x.ps := e ▸ h.get hi
end
def zH : List UInt8 := List.replicate 32 0
theorem eZ : zH.length = 32 := List.length_replicate ..
def eHs : Enc (List UInt8) where
 n := 32
 pos := by decide
 f x := List.map u8v x
 ok x := x.length = 32
 len x h := by simp [h]
 one x := dZ aX x
section
variable {α : Type} {E : Enc α} {w : World} {F : Nat → Prop} {A : Option Addr} {l c : Nat} {xs : List α}
theorem SI.okAt (h : SI w F E A l c xs) {d : α} {i : Nat} (hi : i < l) : E.ok (xs.getD i d) := by
 have hil : i < xs.length := by rw [h.len]; exact hi
 rw [show xs.getD i d = xs[i] by simp [List.getD, List.getElem?_eq_getElem hil]]
 exact h.ok _ (List.getElem_mem hil)
theorem SI.oneA {g : Nat} {t : TypeId} {x : α} {cs : List Value} (hb : Blk w g t ([Value.agg cs.toArray].flatMap fun v => v.cells.toList).toArray) (hc : cs = E.f x) (hx : E.ok x) : SI w (fun k => k = g) E (some ⟨g, 0, none⟩) 1 1 [x] := by
 refine SI.one hb ?_ hx
 rw [← hc]
 show ([Value.agg cs.toArray].flatMap fun v => v.cells.toList) = cs
 simp [Value.cells]
theorem cK {i : Nat} {d : α} (hi : i < xs.length) : xs.drop i = xs.getD i d :: xs.drop (i + 1) := by
 rw [List.drop_eq_getElem_cons hi]
 simp [List.getD, List.getElem?_eq_getElem hi]
theorem cL {i : Nat} {d : α} (hi : i < xs.length) : xs.take (i + 1) = xs.take i ++ [xs.getD i d] := by
 rw [List.take_succ_eq_append_getElem hi]
 simp [List.getD, List.getElem?_eq_getElem hi]
theorem fT {β : Type} {f : α → β} {d : α} {p q : List α} {k : Nat} (hp : k < p.length) (hq : k < q.length) (h : (p.take k).map f = (q.take k).map f) (e : f (p.getD k d) = f (q.getD k d)) : (p.take (k + 1)).map f = (q.take (k + 1)).map f := by
 rw [cL hp (d := d), cL hq (d := d), List.map_append, List.map_append, h, List.map_singleton, List.map_singleton, e]
theorem hO {β : Type} {f : α → β} {p q : List α} {k : Nat} (h : (p.take k).map f = (q.take k).map f) (hp : p.length ≤ k) (hq : q.length ≤ k) : p.map f = q.map f := by
 rwa [List.take_of_length_le hp, List.take_of_length_le hq] at h
theorem gh {β : Type} {f : α → β} {p q : List α} {d : α} {k : Nat} (h : p.map f = q.map f) (hp : k < p.length) (hq : k < q.length) : f (p.getD k d) = f (q.getD k d) := by
 have h1 : (p.map f)[k]? = (q.map f)[k]? := by rw [h]
 simpa [List.getD, List.getElem?_eq_getElem hp, List.getElem?_eq_getElem hq] using h1
end
/-! ### Strings -/
section
variable {P : Program}
theorem beqB (X Y : ByteArray) : (X == Y) = decide (X = Y) := by
 cases X with | mk x => cases Y with | mk y =>
 show (x == y) = _
 by_cases h : x = y
 ·subst h; simp
 simp [h]
theorem oX {d : Nat} {t : TypeId} {X Y : ByteArray} (ht : P.underlying t = some .string) : EqV P (d + 1) t (.string X) (.string Y) (decide (X = Y)) := fun w => by
 rw [← beqB]
 simp [Op.equalIn, run_underlying ht]
theorem mq : ∀ {x y : List UInt8}, Op.bytesLess x y = true ∨ x = y ∨ Op.bytesLess y x = true
 | [], [] => by simp
 | _ :: _, [] => by simp [Op.bytesLess]
 | [], _ :: _ => by simp [Op.bytesLess]
 | a :: x, b :: y => by
  simp only [Op.bytesLess, Bool.or_eq_true, decide_eq_true_eq, Bool.and_eq_true, beq_iff_eq, List.cons.injEq]
  rcases Nat.lt_trichotomy a.toNat b.toNat with h | h | h
  ·exact .inl (.inl h)
  ·have h : a = b := UInt8.toNat_inj.1 h
   rcases mq (x := x) (y := y) with h1 | h1 | h1
   ·exact .inl (.inr ⟨h, h1⟩)
   ·exact .inr (.inl ⟨h, h1⟩)
   exact .inr (.inr (.inr ⟨h.symm, h1⟩))
  exact .inr (.inr (.inl h))
theorem gj : ∀ {x y : List UInt8}, Op.bytesLess x y = true → Op.bytesLess y x = false ∧ x ≠ y
 | [], [], h => by simp [Op.bytesLess] at h
 | _ :: _, [], h => by simp [Op.bytesLess] at h
 | [], _ :: _, _ => by simp [Op.bytesLess]
 | a :: x, b :: y, h => by
  simp only [Op.bytesLess, Bool.or_eq_true, decide_eq_true_eq, Bool.and_eq_true, beq_iff_eq] at h
  rw [Op.bytesLess, Bool.or_eq_false_iff, decide_eq_false_iff_not, Bool.and_eq_false_iff]
  rcases h with h | ⟨h, h1⟩
  ·have h' : a.toNat < b.toNat := h
   exact ⟨⟨fun h2 => by have h2 : b.toNat < a.toNat := h2; omega, .inl (by
    rw [beq_eq_false_iff_ne]; rintro rfl; omega)⟩, by rintro ⟨⟩; omega⟩
  subst h
  obtain ⟨h2, h3⟩ := gj h1
  exact ⟨⟨fun h2 => by have h2 : a.toNat < a.toNat := h2; omega, .inr h2⟩, by rintro ⟨⟩; exact h3 rfl⟩
theorem leq_eq (s u : ByteArray) : (Op.bytesLess s.toList u.toList || s.toList == u.toList) = !Op.bytesLess u.toList s.toList := by
 rcases mq (x := s.toList) (y := u.toList) with h | h | h
 ·rw [h, (gj h).1]; rfl
 ·rw [h]
  cases hb : Op.bytesLess u.toList u.toList with
  | false => simp
  | true => exact absurd rfl (gj hb).2
 obtain ⟨h1, h2⟩ := gj h
 rw [h, h1]
 simp [Ne.symm h2]
variable {S : World → Prop} {n : Nat} {dst : Option Nat} {e : Env} {rt : TypeId} {pos : String} {af : Array Edge} {gd : Option (Nat × Bool)}
theorem nN {t t' : TypeId} {x y : Operand} {X Y : Int} (hx : ev e x = some (.int .i64 X)) (hy : ev e y = some (.int .i64 Y)) (h0 : 0 ≤ X) (h1 : 0 < Y) (h2 : X ≤ 9223372036854775807) : Pu P S n ⟨dst, .binOp .quo t x y t', rt, pos, af, gd⟩ e (.int .i64 (X / Y)) :=
 p_quo hx hy (by omega) (by
  rw [Int.tdiv_eq_ediv_of_nonneg h0]
  have h3 : X / Y ≤ X := Int.ediv_le_self _ h0
  have h4 : 0 ≤ X / Y := Int.ediv_nonneg h0 (by omega)
  exact w64 (by omega))
theorem p_leT {t t' : TypeId} {x y : Operand} {s u : ByteArray} (hx : ev e x = some (.string s)) (hy : ev e y = some (.string u)) : Pu P S n ⟨dst, .binOp .leq t x y t', rt, pos, af, gd⟩ e (.bool (!Op.bytesLess u.toList s.toList)) := fun a F w _ => by
 rw [← leq_eq]
 simp [execOp, F.ev hx, F.ev hy, binOp, Op.stringOp, eqGuard]
theorem sn {t t' : TypeId} {x y : Operand} {s u : ByteArray} (hx : ev e x = some (.string s)) (hy : ev e y = some (.string u)) : Pu P S n ⟨dst, .binOp .geq t x y t', rt, pos, af, gd⟩ e (.bool (!Op.bytesLess s.toList u.toList)) := fun a F w _ => by
 simp [execOp, F.ev hx, F.ev hy, binOp, Op.stringOp, eqGuard]
end
end Go.Gx
namespace Go.Plain
open Go Go.Gx
abbrev ltB (a b : ByteArray) : Bool := Op.bytesLess a.toList b.toList
structure OkP (p : Pr) : Prop where
 k1 : 1 ≤ p.1.size
 k2 : p.1.size ≤ 64
 v : p.2.1.size ≤ 256
 d : p.2.2 = true → p.2.1 = ByteArray.empty
def dk (ps : List Pr) : Prop := ∀ i, i < ps.length → OkP (ps.getD i Pr0) ∧ (0 < i → ltB (ps.getD (i - 1) Pr0).1 (ps.getD i Pr0).1 = true)
def InR (x : RA) (p : Pr) : Prop := p.2.2 = false ∧ (x.1 = true → ltB p.1 x.2.1 = false ∧ ltB p.1 x.2.2.1 = true) ∧ (x.1 = false → p.1 = x.2.1)
structure GoodR (x : RA) : Prop where
 k : x.2.1.size ≤ 64
 t : x.2.2.1.size ≤ 64
 n : x.2.2.2.length ≤ 200
 p : dk x.2.2.2
 i : ∀ j, j < x.2.2.2.length → InR x (x.2.2.2.getD j Pr0)
 z : x.1 = false → 0 < x.2.1.size ∧ x.2.2.1 = ByteArray.empty ∧ x.2.2.2.length ≤ 1
structure RC where
 ses : Int
 snp : Int
 str : Bool
 rs : List RA
 ws : List Pr
def RA0 : RA := (false, ByteArray.empty, ByteArray.empty, [])
structure Right (r : RC) : Prop where
 s1 : 1 ≤ r.ses
 s2 : r.ses ≤ 8
 n1 : 0 ≤ r.snp
 n2 : r.snp ≤ 1099511627776
 rl : r.rs.length ≤ 64
 wl : r.ws.length ≤ 64
 w : dk r.ws
 g : ∀ i, i < r.rs.length → GoodR (r.rs.getD i RA0)
 u : ∀ i j, i < r.rs.length → j < i → ¬ ((r.rs.getD i RA0).1 = false ∧ (r.rs.getD j RA0).1 = false ∧ (r.rs.getD i RA0).2.1 = (r.rs.getD j RA0).2.1)
def cu (b : Bool) : List UInt8 := [if b then 1 else 0]
def dH (p : Pr) : List UInt8 := cS p.1 ++ cS p.2.1
def nO (x : RA) : List UInt8 := cu x.1 ++ cS x.2.1 ++ (if x.1 then cS x.2.2.1 else []) ++ bO x.2.2.2.length ++ (x.2.2.2.map dH).flatten
def jS (p : Pr) : List UInt8 := cS p.1 ++ cu p.2.2 ++ (if p.2.2 then [] else cS p.2.1)
def cd (r : RC) : List UInt8 := bO r.ses.toNat ++ bO r.snp.toNat ++ cu r.str ++ bO r.rs.length ++ (r.rs.map nO).flatten ++ bO r.ws.length ++ (r.ws.map jS).flatten
theorem dr (ra : List RD) (i : Nat) : (ra.map RD.abs).getD i RA0 = (ra.getD i RD0).abs := by
 simp only [List.getD, List.getElem?_map]
 cases ra[i]? <;> rfl
theorem er {α : Type} {xs : List α} {d : α} {i j : Nat} (h : j < i) : (xs.take i).getD j d = xs.getD j d := by
 simp only [List.getD, List.getElem?_take, if_pos h]
def jp (x y : RD) : Prop := x.sc = false ∧ y.sc = false ∧ x.key = y.key
theorem right_iff {s n : Int} {b : Bool} {ra : List RD} {wa : List Pr} : Right ⟨s, n, b, ra.map RD.abs, wa⟩ ↔ (1 ≤ s ∧ s ≤ 8 ∧ 0 ≤ n ∧ n ≤ 1099511627776 ∧ ra.length ≤ 64 ∧ wa.length ≤ 64 ∧ dk wa ∧ (∀ i, i < ra.length → GoodR (ra.getD i RD0).abs) ∧ ∀ i j, i < ra.length → j < i → ¬ jp (ra.getD i RD0) (ra.getD j RD0)) := by
 constructor
 ·rintro ⟨h1, h2, h3, h4, h5, h6, h7, h8, h9⟩
  simp only [List.length_map] at h5 h8 h9
  refine ⟨h1, h2, h3, h4, h5, h6, h7, fun i hi => ?_, fun i j hi hj => ?_⟩
  ·have := h8 i hi; rwa [dr] at this
  have := h9 i j hi hj; rwa [dr, dr] at this
 rintro ⟨h1, h2, h3, h4, h5, h6, h7, h8, h9⟩
 refine ⟨h1, h2, h3, h4, by simpa using h5, h6, h7, fun i hi => ?_, fun i j hi hj => ?_⟩
 ·rw [dr]; exact h8 i (by simpa using hi)
 rw [dr, dr]; exact h9 i j (by simpa using hi) hj
theorem fx {x : RD} (h1 : x.key.size ≤ 64) (h2 : x.to.size ≤ 64) (h3 : x.ps.length ≤ 200) (h4 : dk x.ps) (h5 : ∀ j, j < x.ps.length → InR x.abs (x.ps.getD j Pr0)) : GoodR x.abs ↔ (x.sc = false → 0 < x.key.size ∧ x.to = ByteArray.empty ∧ x.ps.length ≤ 1) :=
 ⟨fun h => h.z, fun h => ⟨h1, h2, h3, h4, h5, h⟩⟩
/-! ### A record's bytes, part by part -/
def hdR (s n : Int) (b : Bool) (l : Nat) : List UInt8 := bO s.toNat ++ bO n.toNat ++ cu b ++ bO l
def rsB (ra : List RD) : List UInt8 := (ra.map fun x => nO x.abs).flatten
def psB (ps : List Pr) : List UInt8 := (ps.map dH).flatten
def wsB (ws : List Pr) : List UInt8 := (ws.map jS).flatten
def hdX (x : RD) : List UInt8 := cu x.sc ++ cS x.key ++ (if x.sc then cS x.to else []) ++ bO x.ps.length
theorem tD (x : RD) : nO x.abs = hdX x ++ psB x.ps := rfl
theorem tE {ra : List RD} {i : Nat} (hi : i < ra.length) : rsB (ra.take (i + 1)) = rsB (ra.take i) ++ nO (ra.getD i RD0).abs := by
 rw [cL hi (d := RD0), rsB, rsB, List.map_append, List.flatten_append]; simp
theorem tF {ps : List Pr} {i : Nat} (hi : i < ps.length) : psB (ps.take (i + 1)) = psB (ps.take i) ++ dH (ps.getD i Pr0) := by
 rw [cL hi (d := Pr0), psB, psB, List.map_append, List.flatten_append]; simp
theorem gm {ps : List Pr} {i : Nat} (hi : i < ps.length) : wsB (ps.take (i + 1)) = wsB (ps.take i) ++ jS (ps.getD i Pr0) := by
 rw [cL hi (d := Pr0), wsB, wsB, List.map_append, List.flatten_append]; simp
theorem mr {s n : Int} {b : Bool} {ra : List RD} {wa : List Pr} : cd ⟨s, n, b, ra.map RD.abs, wa⟩ = hdR s n b ra.length ++ rsB ra ++ bO wa.length ++ wsB wa := by
 simp only [cd, hdR, rsB, wsB, List.length_map, List.map_map]
 rfl
def nmB (zs : List Int) : List UInt8 := (zs.map fun z => bO z.toNat).flatten
def txB (ss : List ByteArray) : List UInt8 := (ss.map cS).flatten
theorem so {zs : List Int} {i : Nat} (hi : i < zs.length) : nmB (zs.take (i + 1)) = nmB (zs.take i) ++ bO (zs.getD i 0).toNat := by
 rw [cL hi (d := 0), nmB, nmB, List.map_append, List.flatten_append]; simp
theorem sp {zs : List ByteArray} {i : Nat} (hi : i < zs.length) : txB (zs.take (i + 1)) = txB (zs.take i) ++ cS (zs.getD i ByteArray.empty) := by
 rw [cL hi (d := ByteArray.empty), txB, txB, List.map_append, List.flatten_append]; simp
theorem fy {α : Type} {xs : List α} {i : Nat} {d : α} (hi : i < xs.length) : xs.getD i d ∈ xs := by
 simp [List.getD, List.getElem?_eq_getElem hi]
theorem ne_nil {s : ByteArray} (h : 1 ≤ s.size) : (!(s.toList == (ByteArray.mk #[]).toList)) = true := by
 rw [oW, decide_eq_false (fun e => by rw [e] at h; exact absurd h (by decide))]; rfl
theorem eq_nil {s : ByteArray} (h : 1 ≤ s.size) : (s.toList == (ByteArray.mk #[]).toList) = false := by
 rw [oW, decide_eq_false (fun e => by rw [e] at h; exact absurd h (by decide))]
theorem oY {s : ByteArray} (h : s = ByteArray.empty) : (s.toList == (ByteArray.mk #[]).toList) = true := fS (h.trans rfl)
end Go.Plain
namespace Go.Plain
open Go.Gx
abbrev W32 := BitVec 32
def sq : W32 := 0x82f63b78#32
def stp (s : W32) : W32 := if s.getLsbD 0 then s >>> 1 ^^^ sq else s >>> 1
theorem sr : stp 0#32 = 0#32 := by decide
theorem stp_xor (a b : W32) : stp (a ^^^ b) = stp a ^^^ stp b := by
 unfold stp
 rw [BitVec.getLsbD_xor, BitVec.ushiftRight_xor_distrib]
 cases a.getLsbD 0 <;> cases b.getLsbD 0 <;> simp only [Bool.xor_false, Bool.xor_true, Bool.not_false, Bool.not_true, if_true, if_false, Bool.false_eq_true]
 ·ac_rfl
 ·ac_rfl
 rw [show a >>> 1 ^^^ sq ^^^ (b >>> 1 ^^^ sq) = a >>> 1 ^^^ b >>> 1 ^^^ (sq ^^^ sq) by ac_rfl, BitVec.xor_self, BitVec.xor_zero]
def pw : Nat → W32 → W32
 | 0, b => b
 | i + 1, b => stp (pw i b)
theorem nP (i : Nat) (a b : W32) : pw i (a ^^^ b) = pw i a ^^^ pw i b := by
 induction i with
 | zero => rfl
 | succ i ih => rw [pw, ih, stp_xor]; rfl
theorem oZ (i : Nat) : pw i 0#32 = 0#32 := by
 induction i with
 | zero => rfl
 | succ i ih => rw [pw, ih, sr]
theorem nQ (i j : Nat) (b : W32) : pw (i + j) b = pw i (pw j b) := by
 induction i with
 | zero => rw [Nat.zero_add]; rfl
 | succ i ih => rw [show i + 1 + j = (i + j) + 1 by omega, pw, ih]; rfl
theorem pw_comm (i j : Nat) (b : W32) : pw i (pw j b) = pw j (pw i b) := by rw [← nQ, ← nQ, Nat.add_comm]
def tm (a b : W32) (i : Nat) : W32 := if a.getLsbD (31 - i) then pw i b else 0#32
def acc (a b : W32) : Nat → W32
 | 0 => 0#32
 | i + 1 => acc a b i ^^^ tm a b i
def mul (a b : W32) : W32 := acc a b 32
theorem kY {T : W32 → W32} (hx : ∀ a b, T (a ^^^ b) = T a ^^^ T b) (h0 : T 0#32 = 0#32) (hp : ∀ k b, T (pw k b) = pw k (T b)) (a b : W32) (i : Nat) : T (acc a b i) = acc a (T b) i := by
 induction i with
 | zero => exact h0
 | succ i ih =>
  rw [acc, hx, ih, acc, tm, tm]
  split
  ·rw [hp]
  rw [h0]
theorem acc_xor (a b c : W32) (i : Nat) : acc a (b ^^^ c) i = acc a b i ^^^ acc a c i := by
 induction i with
 | zero => simp [acc]
 | succ i ih =>
  rw [acc, ih, acc, acc, tm, tm, tm]
  split
  ·rw [nP]; ac_rfl
  simp
theorem su (a : W32) (i : Nat) : acc a 0#32 i = 0#32 := by
 induction i with
 | zero => rfl
 | succ i ih => rw [acc, ih, tm, oZ]; split <;> rfl
theorem o0 (a b c : W32) : mul a (b ^^^ c) = mul a b ^^^ mul a c := acc_xor a b c 32
theorem sv (a b : W32) (k : Nat) : mul a (pw k b) = pw k (mul a b) := (kY (T := pw k) (nP k) (oZ k) (fun j b => pw_comm k j b) a b 32).symm
def e0 : W32 := 0x80000000#32
theorem pw_e0 : ∀ i : Fin 32, pw i.val e0 = e0 >>> i.val := by decide +kernel
theorem sw (i j : Nat) (hi : i < 32) (hj : j < 32) : (e0 >>> i).getLsbD j = decide (j = 31 - i) := by
 have key : ∀ i j : Fin 32, (e0 >>> i.val).getLsbD j.val = decide (j.val = 31 - i.val) := by decide +kernel
 exact key ⟨i, hi⟩ ⟨j, hj⟩
theorem acc_e0 (a : W32) (i : Nat) (hi : i ≤ 32) (j : Nat) (hj : j < 32) : (acc a e0 i).getLsbD j = (a.getLsbD j && decide (31 < j + i)) := by
 induction i with
 | zero => rw [acc, decide_eq_false (by omega), Bool.and_false]; simp
 | succ i ih =>
  rw [acc, BitVec.getLsbD_xor, ih (by omega), tm, pw_e0 ⟨i, by omega⟩]
  by_cases hji : j = 31 - i
  ·subst hji
   rw [decide_eq_false (by omega), Bool.and_false, decide_eq_true (p := 31 < 31 - i + (i + 1)) (by omega), Bool.and_true]
   cases ha : a.getLsbD (31 - i) with
   | true => simp only [if_true]; rw [sw i (31 - i) (by omega) hj, decide_eq_true rfl]; rfl
   | false => simp
  have h2 : (if a.getLsbD (31 - i) = true then e0 >>> i else 0#32).getLsbD j = false := by
   split
   ·rw [sw i j (by omega) hj, decide_eq_false hji]
   simp
  rw [h2, Bool.xor_false]
  congr 1
  exact decide_eq_decide.2 (by omega)
theorem sx (a : W32) : mul a e0 = a := by
 apply BitVec.eq_of_getLsbD_eq
 intro j hj
 rw [mul, acc_e0 a 32 (Nat.le_refl _) j hj, decide_eq_true (by omega), Bool.and_true]
theorem ms (a : W32) : mul a 0#32 = 0#32 := su a 32
theorem mul_comm (a b : W32) : mul a b = mul b a := by
 have h := kY (T := mul a) (o0 a) (ms a) (fun k b => sv a b k) b e0 32
 have h1 : acc b e0 32 = b := sx b
 rw [h1, sx] at h
 exact h
theorem mul_assoc (a b c : W32) : mul (mul a b) c = mul a (mul b c) := by
 have h := kY (T := mul a) (o0 a) (ms a) (fun k b => sv a b k) c b 32
 have h1 : mul (mul a b) c = mul c (mul a b) := mul_comm _ _
 have h2 : mul b c = mul c b := mul_comm _ _
 rw [h1, h2]
 exact h.symm
/-! ### Four steps by a table -/
def nib : List W32 := [0x00000000#32, 0x105ec76f#32, 0x20bd8ede#32, 0x30e349b1#32, 0x417b1dbc#32, 0x5125dad3#32, 0x61c69362#32, 0x7198540d#32, 0x82f63b78#32, 0x92a8fc17#32, 0xa24bb5a6#32, 0xb21572c9#32, 0xc38d26c4#32, 0xd3d3e1ab#32, 0xe330a81a#32, 0xf36e6f75#32]
theorem pw4_low : ∀ k : Fin 16, pw 4 (BitVec.ofNat 32 k.val) = nib.getD k.val 0#32 := by decide +kernel
theorem gv {s : W32} (h : s.getLsbD 0 = false) : stp s = s >>> 1 := by rw [stp, h]; rfl
def himask : W32 := 0xfffffff0#32
theorem fU {j : Nat} (hj : j < 32) : himask.getLsbD j = decide (4 ≤ j) := by
 have key : ∀ j : Fin 32, himask.getLsbD j.val = decide (4 ≤ j.val) := by decide +kernel
 exact key ⟨j, hj⟩
theorem nR {j : Nat} (hj : j < 32) : (15#32).getLsbD j = decide (j < 4) := by
 have key : ∀ j : Fin 32, (15#32).getLsbD j.val = decide (j.val < 4) := by decide +kernel
 exact key ⟨j, hj⟩
theorem split4 (s : W32) : (s &&& himask) ^^^ (s &&& 15#32) = s := by
 apply BitVec.eq_of_getLsbD_eq
 intro j hj
 rw [BitVec.getLsbD_xor, BitVec.getLsbD_and, BitVec.getLsbD_and, fU hj, nR hj]
 by_cases h : 4 ≤ j
 ·rw [decide_eq_true h, decide_eq_false (by omega)]; simp
 rw [decide_eq_false h, decide_eq_true (by omega)]; simp
theorem kZ (s : W32) (j : Nat) (hj : j < 4) : (s &&& himask).getLsbD j = false := by
 rw [BitVec.getLsbD_and, fU (by omega), decide_eq_false (by omega), Bool.and_false]
theorem pw4_hi (s : W32) : pw 4 (s &&& himask) = s >>> 4 := by
 have h : pw 4 (s &&& himask) = (s &&& himask) >>> 4 := by
  have h1 : pw 1 (s &&& himask) = (s &&& himask) >>> 1 := gv (kZ s 0 (by omega))
  have h2 : pw 2 (s &&& himask) = (s &&& himask) >>> 1 >>> 1 := by
   rw [pw, h1, gv (by rw [BitVec.getLsbD_ushiftRight]; exact kZ s 1 (by omega))]
  have h3 : pw 3 (s &&& himask) = (s &&& himask) >>> 1 >>> 1 >>> 1 := by
   rw [pw, h2, gv (by rw [BitVec.getLsbD_ushiftRight, BitVec.getLsbD_ushiftRight]; exact kZ s 2 (by omega))]
  rw [pw, h3, gv (by rw [BitVec.getLsbD_ushiftRight, BitVec.getLsbD_ushiftRight, BitVec.getLsbD_ushiftRight]; exact kZ s 3 (by omega)), ← BitVec.shiftRight_add, ← BitVec.shiftRight_add, ← BitVec.shiftRight_add]
 rw [h]
 apply BitVec.eq_of_getLsbD_eq
 intro j hj
 rw [BitVec.getLsbD_ushiftRight, BitVec.getLsbD_ushiftRight, BitVec.getLsbD_and]
 by_cases h4 : 4 + j < 32
 ·rw [fU h4, decide_eq_true (by omega), Bool.and_true]
 rw [BitVec.getLsbD_of_ge s (4 + j) (by omega), Bool.false_and]
theorem low_lt (s : W32) : (s &&& 15#32).toNat < 16 := by
 rw [BitVec.toNat_and]
 have : s.toNat &&& (15#32).toNat ≤ (15#32).toNat := Nat.and_le_right
 have h2 : (15#32).toNat = 15 := rfl
 omega
theorem four (s : W32) : s >>> 4 ^^^ nib.getD (s &&& 15#32).toNat 0#32 = pw 4 s := by
 have h := pw4_low ⟨_, low_lt s⟩
 simp only [BitVec.ofNat_toNat, BitVec.setWidth_eq] at h
 conv => rhs; rw [← split4 s, nP, pw4_hi, h]
/-! ### Sums of bytes -/
def upd (s : W32) (x : UInt8) : W32 := pw 8 (s ^^^ BitVec.ofNat 32 x.toNat)
def crcF (s : W32) (b : List UInt8) : W32 := b.foldl upd s
def crcAdd (s : W32) (b : List UInt8) : W32 := ~~~ crcF (~~~ s) b
def crc (b : List UInt8) : W32 := crcAdd 0#32 b
theorem eight (s : W32) (x : UInt8) : upd s x = ((s ^^^ BitVec.ofNat 32 x.toNat) >>> 4 ^^^ nib.getD ((s ^^^ BitVec.ofNat 32 x.toNat) &&& 15#32).toNat 0#32) >>> 4 ^^^ nib.getD (((s ^^^ BitVec.ofNat 32 x.toNat) >>> 4 ^^^ nib.getD ((s ^^^ BitVec.ofNat 32 x.toNat) &&& 15#32).toNat 0#32) &&& 15#32).toNat 0#32 := by
 rw [four, four, upd, ← nQ]
/-! ### Joining: what holds at a round's head -/
theorem half (n2 q : Nat) : n2 * 2 ^ q = n2 / 2 * 2 ^ (q + 1) + n2 % 2 * 2 ^ q := by
 rw [Nat.pow_succ, show n2 / 2 * (2 ^ q * 2) = (n2 / 2 * 2) * 2 ^ q by rw [Nat.mul_assoc, Nat.mul_comm 2], ← Nat.add_mul]
 congr 1; omega
/-! ### Frames -/
def b8 (s : W32) (k : Nat) : UInt8 := UInt8.ofNat (s >>> k).toNat
def be4 (s : W32) : List UInt8 := [b8 s 24, b8 s 16, b8 s 8, b8 s 0]
def frame (b : List UInt8) : List UInt8 := if 8192 < b.length then [] else (bO b.length ++ b) ++ be4 (crc (bO b.length ++ b))
end Go.Plain
namespace Go.Plain
open Go.Gx
def ia (x : W32) (r : Nat) : W32 := x >>> r ||| x <<< (32 - r)
theorem sy {r : Nat} (h1 : 1 ≤ r) (h2 : r ≤ 31) : IntKind.u64.wrap (-(r : Int)) = ((18446744073709551616 - r : Nat) : Int) := by
 rw [IntKind.wrap_u64]; omega
theorem rot_and {r : Nat} (h1 : 1 ≤ r) (h2 : r ≤ 31) : IntKind.u64.wrap (((BitVec.ofInt 64 ((18446744073709551616 - r : Nat) : Int)) &&& (BitVec.ofInt 64 31)).toNat : Int) = ((32 - r : Nat) : Int) := by
 have key : ∀ r : Fin 32, 1 ≤ r.val → IntKind.u64.wrap (((BitVec.ofInt 64 ((18446744073709551616 - r.val : Nat) : Int)) &&& (BitVec.ofInt 64 31)).toNat : Int) = ((32 - r.val : Nat) : Int) := by decide +kernel
 exact key ⟨r, by omega⟩ h1
def sig0 (x : W32) : W32 := ia x 7 ^^^ ia x 18 ^^^ x >>> 3
def sig1 (x : W32) : W32 := ia x 17 ^^^ ia x 19 ^^^ x >>> 10
def big1 (x : W32) : W32 := ia x 6 ^^^ ia x 11 ^^^ ia x 25
def big0 (x : W32) : W32 := ia x 2 ^^^ ia x 13 ^^^ ia x 22
def w8 (x : UInt8) : W32 := BitVec.ofNat 32 x.toNat
def word (B : List UInt8) (t : Nat) : W32 := w8 (B.getD (4 * t) 0) <<< 24 ||| w8 (B.getD (4 * t + 1) 0) <<< 16 ||| w8 (B.getD (4 * t + 2) 0) <<< 8 ||| w8 (B.getD (4 * t + 3) 0)
def jY (B : List UInt8) (l : List W32) (t : Nat) : W32 := if t < 16 then word B t else l.getD (t - 16) 0#32 + sig0 (l.getD (t - 15) 0#32) + l.getD (t - 7) 0#32 + sig1 (l.getD (t - 2) 0#32)
def sch (B : List UInt8) : Nat → List W32
 | 0 => []
 | t + 1 => sch B t ++ [jY B (sch B t) t]
theorem dI (B : List UInt8) : ∀ t, (sch B t).length = t
 | 0 => rfl
 | t + 1 => by rw [sch, List.length_append, dI B t]; rfl
def eu (B : List UInt8) (t : Nat) : List W32 := sch B t ++ List.replicate (64 - t) 0#32
theorem jq (B : List UInt8) {t : Nat} (h : t ≤ 64) : (eu B t).length = 64 := by rw [eu, List.length_append, dI, List.length_replicate]; omega
theorem jZ (B : List UInt8) : eu B 0 = List.replicate 64 0#32 := by rw [eu, sch, List.nil_append]
theorem qmtq (B : List UInt8) : eu B 64 = sch B 64 := by rw [eu, Nat.sub_self, List.replicate_zero, List.append_nil]
theorem gw (B : List UInt8) {t i : Nat} (h : i < t) : (eu B t).getD i 0#32 = (sch B t).getD i 0#32 := by
 rw [eu, List.getD, List.getD, List.getElem?_append_left (by rw [dI]; exact h)]
theorem ec (B : List UInt8) {t : Nat} (h : t < 64) : (eu B t).set t (jY B (sch B t) t) = eu B (t + 1) := by
 rw [eu, List.set_append_right _ _ (by rw [dI]; omega), dI, Nat.sub_self, show 64 - t = (64 - (t + 1)) + 1 by omega, List.replicate_succ, List.set_cons_zero, eu, sch, List.append_assoc]; rfl
theorem jr (B : List UInt8) (l : List W32) {t : Nat} (h : t < 16) : jY B l t = word B t := by rw [jY, if_pos h]
theorem ib (B : List UInt8) {t : Nat} (h : 16 ≤ t) : jY B (sch B t) t = (eu B t).getD (t - 16) 0#32 + sig0 ((eu B t).getD (t - 15) 0#32) + (eu B t).getD (t - 7) 0#32 + sig1 ((eu B t).getD (t - 2) 0#32) := by
 rw [jY, if_neg (by omega), gw B (by omega), gw B (by omega), gw B (by omega), gw B (by omega)]
def rk : List W32 := [0x428a2f98#32, 0x71374491#32, 0xb5c0fbcf#32, 0xe9b5dba5#32, 0x3956c25b#32, 0x59f111f1#32, 0x923f82a4#32, 0xab1c5ed5#32, 0xd807aa98#32, 0x12835b01#32, 0x243185be#32, 0x550c7dc3#32, 0x72be5d74#32, 0x80deb1fe#32, 0x9bdc06a7#32, 0xc19bf174#32, 0xe49b69c1#32, 0xefbe4786#32, 0x0fc19dc6#32, 0x240ca1cc#32, 0x2de92c6f#32, 0x4a7484aa#32, 0x5cb0a9dc#32, 0x76f988da#32, 0x983e5152#32, 0xa831c66d#32, 0xb00327c8#32, 0xbf597fc7#32, 0xc6e00bf3#32, 0xd5a79147#32, 0x06ca6351#32, 0x14292967#32, 0x27b70a85#32, 0x2e1b2138#32, 0x4d2c6dfc#32, 0x53380d13#32, 0x650a7354#32, 0x766a0abb#32, 0x81c2c92e#32, 0x92722c85#32, 0xa2bfe8a1#32, 0xa81a664b#32, 0xc24b8b70#32, 0xc76c51a3#32, 0xd192e819#32, 0xd6990624#32, 0xf40e3585#32, 0x106aa070#32, 0x19a4c116#32, 0x1e376c08#32, 0x2748774c#32, 0x34b0bcb5#32, 0x391c0cb3#32, 0x4ed8aa4a#32, 0x5b9cca4f#32, 0x682e6ff3#32, 0x748f82ee#32, 0x78a5636f#32, 0x84c87814#32, 0x8cc70208#32, 0x90befffa#32, 0xa4506ceb#32, 0xbef9a3f7#32, 0xc67178f2#32]
def ch (x y z : W32) : W32 := z ^^^ (x &&& (y ^^^ z))
def maj (x y z : W32) : W32 := x &&& y ||| z &&& (x ||| y)
def rnd (v : List W32) (k w : W32) : List W32 :=
 let t := v.getD 7 0#32 + big1 (v.getD 4 0#32) + ch (v.getD 4 0#32) (v.getD 5 0#32) (v.getD 6 0#32) + k + w
 [t + big0 (v.getD 0 0#32) + maj (v.getD 0 0#32) (v.getD 1 0#32) (v.getD 2 0#32), v.getD 0 0#32, v.getD 1 0#32, v.getD 2 0#32, v.getD 3 0#32 + t, v.getD 4 0#32, v.getD 5 0#32, v.getD 6 0#32]
def ic (w h : List W32) : Nat → List W32
 | 0 => h
 | t + 1 => rnd (ic w h t) (rk.getD t 0#32) (w.getD t 0#32)
theorem gy (w : List W32) {h : List W32} (hh : h.length = 8) : ∀ t, (ic w h t).length = 8
 | 0 => hh
 | t + 1 => rfl
def js (h v : List W32) : Nat → List W32
 | 0 => h
 | i + 1 => (js h v i).set i ((js h v i).getD i 0#32 + v.getD i 0#32)
theorem fa (h v : List W32) : ∀ i, (js h v i).length = h.length
 | 0 => rfl
 | i + 1 => by rw [js, List.length_set, fa h v i]
def cmp (h : List W32) (B : List UInt8) : List W32 := js h (ic (sch B 64) h 64) 8
theorem k5 {h : List W32} (hh : h.length = 8) (B : List UInt8) : (cmp h B).length = 8 := by rw [cmp, fa, hh]
def iv : List W32 := [0x6a09e667#32, 0xbb67ae85#32, 0x3c6ef372#32, 0xa54ff53a#32, 0x510e527f#32, 0x9b05688c#32, 0x1f83d9ab#32, 0x5be0cd19#32]
def hsh (m : List UInt8) : Nat → List W32
 | 0 => iv
 | k + 1 => cmp (hsh m k) ((m.drop (64 * k)).take 64)
theorem cC (m : List UInt8) : ∀ k, (hsh m k).length = 8
 | 0 => rfl
 | k + 1 => k5 (cC m k) _
theorem k6 (m r : List UInt8) : ∀ {k : Nat}, 64 * k ≤ m.length → hsh (m ++ r) k = hsh m k
 | 0, _ => rfl
 | k + 1, h => by
  rw [hsh, hsh, k6 m r (by omega)]
  congr 1
  rw [List.drop_append_of_le_length (by omega), List.take_append_of_le_length (by rw [List.length_drop]; omega)]
def be8 (n : Nat) : List UInt8 := [UInt8.ofNat (n / 2 ^ 56), UInt8.ofNat (n / 2 ^ 48), UInt8.ofNat (n / 2 ^ 40), UInt8.ofNat (n / 2 ^ 32), UInt8.ofNat (n / 2 ^ 24), UInt8.ofNat (n / 2 ^ 16), UInt8.ofNat (n / 2 ^ 8), UInt8.ofNat (n / 2 ^ 0)]
def nz (n : Nat) : Nat := (55 + 64 - n % 64) % 64
def pad (m : List UInt8) : List UInt8 := m ++ (128 : UInt8) :: List.replicate (nz m.length) 0 ++ be8 (8 * m.length)
theorem pa (m : List UInt8) : (pad m).length = m.length + 9 + nz m.length := by
 simp [pad, be8]; omega
theorem pad_mod (m : List UInt8) : (pad m).length % 64 = 0 := by
 rw [pa, nz]; omega
def jt (h : List W32) : List UInt8 := (h.map be4).flatten
def shaF (m : List UInt8) : List UInt8 := jt (hsh (pad m) ((pad m).length / 64))
theorem fb : ∀ {h : List W32}, (jt h).length = 4 * h.length
 | [] => rfl
 | x :: h => by
  have := fb (h := h)
  unfold jt at this ⊢
  rw [List.map_cons, List.flatten_cons, List.length_append, this, List.length_cons]
  show 4 + _ = _
  omega
theorem aD (m : List UInt8) : (shaF m).length = 32 := by rw [shaF, fb, cC]
end Go.Plain
namespace Go.Plain
structure Rep (m : List UInt8) (h : List W32) (rest : List UInt8) : Prop where
 words : h = hsh m (m.length / 64)
 len : rest.length = 64
 left : rest.take (m.length % 64) = m.drop (64 * (m.length / 64))
theorem Rep.hlen {m : List UInt8} {h : List W32} {rest : List UInt8} (r : Rep m h rest) : h.length = 8 := by rw [r.words, cC]
theorem rep_nil : Rep [] iv (List.replicate 64 0) := ⟨rfl, by simp, by simp⟩
def lay (rest : List UInt8) (r : Nat) (c : List UInt8) : List UInt8 := rest.take r ++ c ++ rest.drop (r + c.length)
theorem iR {rest c : List UInt8} {r : Nat} (hr : rest.length = 64) (h : r + c.length ≤ 64) : (lay rest r c).length = 64 := by
 simp [lay, hr]; omega
theorem mv {rest c : List UInt8} {r : Nat} (hr : rest.length = 64) (h : r + c.length ≤ 64) : (lay rest r c).take (r + c.length) = rest.take r ++ c := by
 rw [lay, List.take_left' (by rw [List.length_append, List.length_take, hr]; omega)]
theorem Rep.more {m c : List UInt8} {h : List W32} {rest : List UInt8} (r : Rep m h rest) (hc : m.length % 64 + c.length < 64) : Rep (m ++ c) h (lay rest (m.length % 64) c) := by
 have hl : (m ++ c).length = m.length + c.length := List.length_append
 have hd : (m.length + c.length) / 64 = m.length / 64 := by omega
 have hm : (m.length + c.length) % 64 = m.length % 64 + c.length := by omega
 refine ⟨?_, iR r.len (by omega), ?_⟩
 ·rw [hl, hd, k6 m c (by omega)]; exact r.words
 rw [hl, hd, hm, mv r.len (by omega), r.left, List.drop_append_of_le_length (by omega)]
theorem Rep.full {m c : List UInt8} {h : List W32} {rest : List UInt8} (r : Rep m h rest) (hc : m.length % 64 + c.length = 64) : Rep (m ++ c) (cmp h (lay rest (m.length % 64) c)) (lay rest (m.length % 64) c) := by
 have hl : (m ++ c).length = m.length + c.length := List.length_append
 have hd : (m.length + c.length) / 64 = m.length / 64 + 1 := by omega
 have hm : (m.length + c.length) % 64 = 0 := by omega
 have hlt := mv (rest := rest) (c := c) (r := m.length % 64) r.len (by omega)
 have hll := iR (rest := rest) (c := c) (r := m.length % 64) r.len (by omega)
 rw [hc, List.take_of_length_le (by omega), r.left] at hlt
 refine ⟨?_, hll, ?_⟩
 ·rw [hl, hd, hsh, k6 m c (by omega), ← r.words, hlt]
  congr 1
  rw [List.drop_append_of_le_length (by omega), List.take_of_length_le (by rw [List.length_append, List.length_drop]; omega)]
 rw [hl, hd, hm, List.take_zero, List.drop_of_length_le (by rw [List.length_append]; omega)]
end Go.Plain
namespace Go.Plain
theorem pb {n j : Nat} (h : j ≤ nz n) (e : (n + 1 + j) % 64 = 56) : j = nz n := by
 unfold nz at *; omega
theorem nz_on {n j : Nat} (h : j ≤ nz n) (e : ¬ (n + 1 + j) % 64 = 56) : j < nz n := by
 unfold nz at *; omega
end Go.Plain
namespace Go.Plain
open Go.Gx
def pz (m : List UInt8) (j : Nat) : List UInt8 := m ++ (128 : UInt8) :: List.replicate j 0
theorem pz_zero (m : List UInt8) : m ++ [128] = pz m 0 := rfl
theorem k7 {m : List UInt8} {j : Nat} : (pz m j).length = m.length + 1 + j := by simp [pz]; omega
theorem pc {m : List UInt8} {j : Nat} : pz m j ++ [0] = pz m (j + 1) := by
 rw [pz, pz, List.append_assoc, List.cons_append, List.replicate_succ']
def pq (m : List UInt8) (k : Nat) : List UInt8 := pz m (nz m.length) ++ (be8 (8 * m.length)).take k
theorem pd (m : List UInt8) : pz m (nz m.length) = pq m 0 := by simp [pq]
theorem pq_len {m : List UInt8} {k : Nat} (h : k ≤ 8) : (pq m k).length = m.length + 1 + nz m.length + k := by
 rw [pq, List.length_append, k7, List.length_take]
 have : (be8 (8 * m.length)).length = 8 := rfl
 omega
theorem be8_get (n : Nat) {k : Nat} (h : k < 8) : (be8 n).getD k 0 = UInt8.ofNat (n / 2 ^ (56 - 8 * k)) := by
 match k, h with
 | 0, _ => rfl
 | 1, _ => rfl
 | 2, _ => rfl
 | 3, _ => rfl
 | 4, _ => rfl
 | 5, _ => rfl
 | 6, _ => rfl
 | 7, _ => rfl
theorem j5 {α : Type} {l : List α} {k : Nat} (d : α) (h : k < l.length) : l.take k ++ [l.getD k d] = l.take (k + 1) := by
 rw [List.take_succ_eq_append_getElem h]
 simp [List.getD, List.getElem?_eq_getElem h]
theorem pf {m : List UInt8} {k : Nat} (h : k < 8) : pq m k ++ [UInt8.ofNat (8 * m.length / 2 ^ (56 - 8 * k))] = pq m (k + 1) := by
 rw [pq, pq, List.append_assoc, ← be8_get _ h, j5 0 h]
theorem sA (m : List UInt8) : pq m 8 = pad m := by
 rw [pq, pad, pz, List.take_of_length_le (show (be8 (8 * m.length)).length ≤ 8 from Nat.le_refl _)]
def ju (h : List W32) (i : Nat) : List UInt8 := jt (h.take i) ++ List.replicate (32 - 4 * i) 0
theorem j6 (h : List W32) : ju h 0 = List.replicate 32 0 := rfl
theorem mw {h : List W32} (hh : h.length = 8) : ju h 8 = jt h := by
 rw [ju, List.take_of_length_le (by omega)]; simp
theorem my {h : List W32} (hh : h.length = 8) {i : Nat} (hi : i ≤ 8) : (ju h i).length = 32 := by
 rw [ju, List.length_append, fb, List.length_take, List.length_replicate]; omega
theorem set4 {x : List UInt8} {n p : Nat} (hx : x.length = p) (a b c d : UInt8) (hn : 4 ≤ n) : ((((x ++ List.replicate n 0).set p a).set (p + 1) b).set (p + 2) c).set (p + 3) d = x ++ [a, b, c, d] ++ List.replicate (n - 4) 0 := by
 subst hx
 obtain ⟨k, rfl⟩ := Nat.exists_eq_add_of_le hn
 rw [show 4 + k - 4 = k by omega, show 4 + k = k + 1 + 1 + 1 + 1 by omega]
 simp [List.set_append_right, List.replicate_succ]
theorem j7 {h : List W32} (hh : h.length = 8) {i : Nat} (hi : i < 8) : ((((ju h i).set (4 * i) (b8 (h.getD i 0#32) 24)).set (4 * i + 1) (b8 (h.getD i 0#32) 16)).set (4 * i + 2) (b8 (h.getD i 0#32) 8)).set (4 * i + 3) (UInt8.ofNat (h.getD i 0#32).toNat) = ju h (i + 1) := by
 rw [ju, set4 (by rw [fb, List.length_take]; omega) _ _ _ _ (by omega), ju, ← j5 0#32 (by omega)]
 have e : jt (h.take i ++ [h.getD i 0#32]) = jt (h.take i) ++ be4 (h.getD i 0#32) := by simp [jt]
 rw [e, show 32 - 4 * (i + 1) = 32 - 4 * i - 4 by omega, be4, show b8 (h.getD i 0#32) 0 = UInt8.ofNat (h.getD i 0#32).toNat by simp [b8]]
theorem shl3 {n : Nat} (h : n ≤ 4398046511104) : IntKind.u64.wrap ((n : Int) * 2 ^ (min ((3 : Int)).toNat IntKind.u64.bits)) = ((8 * n : Nat) : Int) := by
 rw [show min ((3 : Int)).toNat IntKind.u64.bits = 3 from rfl, eR (by omega)]; omega
/-! ### The reference's formulas -/
theorem ch_ref (x y z : W32) : (x &&& y) ^^^ (~~~x &&& z) = ch x y z := by
 apply BitVec.eq_of_getLsbD_eq
 intro i hi
 simp only [ch, BitVec.getLsbD_xor, BitVec.getLsbD_and, BitVec.getLsbD_not, hi, decide_true, Bool.true_and]
 cases x.getLsbD i <;> cases y.getLsbD i <;> cases z.getLsbD i <;> rfl
theorem maj_ref (x y z : W32) : (x &&& y) ^^^ (x &&& z) ^^^ (y &&& z) = maj x y z := by
 apply BitVec.eq_of_getLsbD_eq
 intro i hi
 simp only [maj, BitVec.getLsbD_xor, BitVec.getLsbD_and, BitVec.getLsbD_or]
 cases x.getLsbD i <;> cases y.getLsbD i <;> cases z.getLsbD i <;> rfl
/-! ### Digits -/
end Go.Plain
namespace Go.Plain
open Go.Gx
def cm (b : List UInt8) : List UInt8 := shaF (0 :: b)
def bu (a b : List UInt8) : List UInt8 := shaF (1 :: (a ++ b))
theorem leaf_of (b : List UInt8) : shaF ([0] ++ [b].flatten) = cm b := by simp [cm]
theorem pg (a b : List UInt8) : shaF ([1] ++ [a, b].flatten) = bu a b := by simp [bu]
theorem bp (b : List UInt8) : (cm b).length = 32 := aD _
theorem aQ (a b : List UInt8) : (bu a b).length = 32 := aD _
theorem beq_str {p q : List UInt8} : ((str p).toList == (str q).toList) = (p == q) := by
 by_cases h : p = q
 ·subst h; rw [fS rfl]; simp
 have h1 : ¬ str p = str q := fun e => h (oO e)
 have h2 : (p == q) = false := by simpa using h
 rw [h2]
 cases h3 : ((str p).toList == (str q).toList) with
 | false => rfl
 | true => exact absurd (eY h3) h1
end Go.Plain
namespace Go.Plain
open Go Go.Gx
def spl (n : Nat) : Nat := 2 ^ Nat.log2 (n - 1)
section
variable {n i j k : Nat}
theorem bT (n : Nat) : 0 < spl n := Nat.two_pow_pos _
theorem cF (h : 2 ≤ n) : spl n < n := by
 have := Nat.log2_self_le (n := n - 1) (by omega)
 unfold spl; omega
theorem ig (h : 2 ≤ n) : n ≤ 2 * spl n := by
 have := Nat.lt_log2_self (n := n - 1)
 rw [Nat.pow_succ] at this
 unfold spl; omega
theorem ph {x : Nat} (h1 : 2 ^ j ≤ x) (h2 : x < 2 ^ (j + 1)) : Nat.log2 x = j := by
 have hx : x ≠ 0 := by have := Nat.two_pow_pos j; omega
 have a := Nat.log2_self_le hx
 have b := Nat.lt_log2_self (n := x)
 rcases Nat.lt_trichotomy x.log2 j with h | h | h
 ·have := Nat.pow_le_pow_right (n := 2) (by omega) (show x.log2 + 1 ≤ j from h); omega
 ·exact h
 have := Nat.pow_le_pow_right (n := 2) (by omega) (show j + 1 ≤ x.log2 from h); omega
theorem sB (h1 : 2 ^ j < n) (h2 : n ≤ 2 * 2 ^ j) : 2 ^ j = spl n := by
 unfold spl
 rw [ph (x := n - 1) (j := j) (by omega) (by rw [Nat.pow_succ]; omega)]
theorem fc {x s : Nat} (h : 2 ^ s ≤ x) : Nat.log2 x = s + Nat.log2 (x / 2 ^ s) := by
 have hp := Nat.two_pow_pos s
 have hq : x / 2 ^ s ≠ 0 := by have := Nat.div_pos h hp; omega
 refine ph ?_ ?_
 ·rw [Nat.pow_add]
  have := Nat.mul_le_mul_left (2 ^ s) (Nat.log2_self_le hq)
  exact Nat.le_trans this (Nat.mul_div_le _ _)
 rw [Nat.add_assoc, Nat.pow_add]
 have h1 := Nat.lt_log2_self (n := x / 2 ^ s)
 have h2 := (Nat.div_lt_iff_lt_mul hp).1 h1
 rwa [Nat.mul_comm] at h2
theorem gA {x : Nat} (h0 : 0 < x) (h : x < 256) : (lenT.getD (UInt8.ofNat x).toNat 0).toNat = Nat.log2 x + 1 := by
 have key : ∀ n : Fin 256, n.val = 0 ∨ (lenT.getD (UInt8.ofNat n.val).toNat 0).toNat = Nat.log2 n.val + 1 := by decide +kernel
 rcases key ⟨x, h⟩ with h1 | h1
 ·simp at h1; omega
 exact h1
def trn (n i : Nat) : List (Nat × Bool) :=
 if h : 2 ≤ n then (if i < spl n then (n, false) :: trn (spl n) i else (n, true) :: trn (n - spl n) (i - spl n)) else []
termination_by n
decreasing_by
 ·exact cF h
 have := bT n; omega
theorem mA (h : 2 ≤ n) (hi : i < spl n) : trn n i = (n, false) :: trn (spl n) i := by rw [trn, dif_pos h, if_pos hi]
theorem mB (h : 2 ≤ n) (hi : spl n ≤ i) : trn n i = (n, true) :: trn (n - spl n) (i - spl n) := by rw [trn, dif_pos h, if_neg (by omega)]
theorem pi (h : n ≤ 1) : trn n i = [] := by rw [trn, dif_neg (by omega)]
def sd (n i : Nat) : List Bool := ((trn n i).map (·.2)).reverse
theorem sC : (sd n i).length = (trn n i).length := by simp [sd]
theorem sd_l (h : 2 ≤ n) (hi : i < spl n) : sd n i = sd (spl n) i ++ [false] := by unfold sd; rw [mA h hi]; simp
theorem sd_r (h : 2 ≤ n) (hi : spl n ≤ i) : sd n i = sd (n - spl n) (i - spl n) ++ [true] := by unfold sd; rw [mB h hi]; simp
theorem sd_1 (h : n ≤ 1) : sd n i = [] := by unfold sd; rw [pi h]; rfl
def up2 : List Bool → List (List UInt8) → List UInt8 → List UInt8
 | s :: ss, p :: ps, h => up2 ss ps (if s then bu p h else bu h p)
 | _, _, h => h
variable {ss : List Bool} {ps : List (List UInt8)} {s : Bool} {p h : List UInt8}
theorem fd : ∀ {ss : List Bool} {ps : List (List UInt8)} {h : List UInt8}, ss.length = ps.length → up2 (ss ++ [s]) (ps ++ [p]) h = if s then bu p (up2 ss ps h) else bu (up2 ss ps h) p
 | [], [], h, _ => rfl
 | s' :: ss, p' :: ps, h, e => by
  have := fd (ss := ss) (ps := ps) (h := if s' then bu p' h else bu h p') (by simpa using e)
  simpa [up2] using this
theorem pj : ∀ {ss : List Bool} {ps : List (List UInt8)} {h : List UInt8}, h.length = 32 → (up2 ss ps h).length = 32
 | [], ps, h, e => by cases ps <;> exact e
 | _ :: _, [], h, e => e
 | s' :: ss, p' :: ps, h, e => by
  rw [up2]
  exact pj (by split <;> exact aQ _ _)
def CL (n i : Nat) (lf : List UInt8) (q : List (List UInt8)) (u : List UInt8) (ok : Bool) : Prop := u.length = 32 ∧ (ok = true ↔ q.length = (trn n i).length) ∧ (ok = true → u = up2 (sd n i) q lf)
theorem CL.one {lf : List UInt8} {q : List (List UInt8)} (hn : n ≤ 1) (hl : lf.length = 32) {ok : Bool} (ho : ok = true ↔ q.length = 0) : CL n i lf q lf ok := by
 refine ⟨hl, ?_, fun h => ?_⟩
 ·rw [pi hn]; exact ho
 rw [sd_1 hn]; cases q <;> rfl
theorem CL.none {lf u : List UInt8} (hn : 2 ≤ n) (hu : u.length = 32) : CL n i lf [] u false := by
 refine ⟨hu, ⟨fun h => (by cases h), fun h => ?_⟩, fun h => by cases h⟩
 rcases Nat.lt_or_ge i (spl n) with hi | hi
 ·rw [mA hn hi] at h; simp at h
 rw [mB hn hi] at h; simp at h
theorem cX {α : Type} {q : List α} {d : α} {l : Nat} (hl : q.length = l) (h0 : 0 < l) : q = q.take (l - 1) ++ [q.getD (l - 1) d] := by
 rw [← cL (by omega), List.take_of_length_le (by omega)]
theorem CL.left {lf u : List UInt8} {q : List (List UInt8)} {ok : Bool} (hn : 2 ≤ n) (hi : i < spl n) {l : Nat} (hl : q.length = l) (h0 : 0 < l) (h : CL (spl n) i lf (q.take (l - 1)) u ok) : CL n i lf q (bu u (q.getD (l - 1) zH)) ok := by
 obtain ⟨h1, h2, h3⟩ := h
 refine ⟨aQ _ _, ?_, fun ho => ?_⟩
 ·rw [h2, mA hn hi, List.length_take, List.length_cons]; omega
 have e := h2.1 ho
 rw [sd_l hn hi, cX (d := zH) hl h0, fd (by rw [sC, e]), h3 ho]
 simp [List.getD]
 have hx : (q.take (l - 1)).length = l - 1 := by rw [List.length_take]; omega
 rw [List.getElem?_append_right (by omega), hx]; simp
theorem CL.right {lf u : List UInt8} {q : List (List UInt8)} {ok : Bool} (hn : 2 ≤ n) (hi : spl n ≤ i) {l : Nat} (hl : q.length = l) (h0 : 0 < l) (h : CL (n - spl n) (i - spl n) lf (q.take (l - 1)) u ok) : CL n i lf q (bu (q.getD (l - 1) zH) u) ok := by
 obtain ⟨h1, h2, h3⟩ := h
 refine ⟨aQ _ _, ?_, fun ho => ?_⟩
 ·rw [h2, mB hn hi, List.length_take, List.length_cons]; omega
 have e := h2.1 ho
 rw [sd_r hn hi, cX (d := zH) hl h0, fd (by rw [sC, e]), h3 ho]
 simp [List.getD]
 have hx : (q.take (l - 1)).length = l - 1 := by rw [List.length_take]; omega
 rw [List.getElem?_append_right (by omega), hx]; simp
end
end Go.Plain
namespace Go.Gx
open Go.RowKit
def eTU : Enc (Nat × Bool) where
 n := 2
 pos := by decide
 f x := [i64 (x.1 : Int), .bool x.2]
 ok _ := True
 len _ _ := rfl
 one x := cO rfl
end Go.Gx
namespace Go.Plain
open Go Go.Gx
abbrev BS := List UInt8
section
variable {xs ys zs us : List BS} {x y : BS}
theorem nodeS {s : Bool} {p h : BS} : shaF (1 :: (if s then p ++ h else h ++ p)) = if s then bu p h else bu h p := by cases s <;> rfl
end
/-! ### Turned round in place -/
def Half (i l : Nat) (xs ys : List Bool) : Prop := ys.length = l ∧ ∀ k, k < l → ys.getD k false = if k < i ∨ l - i ≤ k then xs.getD (l - 1 - k) false else xs.getD k false
section
variable {xs ys : List Bool} {i l : Nat}
theorem Half.zero (h : xs.length = l) : Half 0 l xs xs := ⟨h, fun k hk => by rw [if_neg (by omega)]⟩
theorem mC {zs : List Bool} {a k : Nat} {b : Bool} (ha : a < zs.length) : (zs.set a b).getD k false = if k = a then b else zs.getD k false := by
 simp only [List.getD, List.getElem?_set]
 by_cases h : a = k
 ·subst h; simp [ha]
 rw [if_neg h, if_neg (fun e => h e.symm)]
theorem Half.step (h : Half i l xs ys) (hi : i + 1 + i < l) : Half (i + 1) l xs ((ys.set i (ys.getD (l - 1 - i) false)).set (l - 1 - i) (ys.getD i false)) := by
 obtain ⟨h1, h2⟩ := h
 refine ⟨by simp [h1], fun k hk => ?_⟩
 rw [mC (by simp [h1]; omega), mC (by omega)]
 by_cases e1 : k = l - 1 - i
 ·rw [if_pos e1, h2 i (by omega), if_neg (by omega), if_pos (by omega)]
  congr 1; omega
 rw [if_neg e1]
 by_cases e2 : k = i
 ·rw [if_pos e2, h2 _ (by omega), if_neg (by omega), if_pos (by omega), e2]
 rw [if_neg e2, h2 k hk]
 by_cases e3 : k < i ∨ l - i ≤ k
 ·rw [if_pos e3, if_pos (by omega)]
 rw [if_neg e3, if_neg (by omega)]
theorem Half.done (h : Half i l xs ys) (hx : xs.length = l) (hi : l ≤ i + 1 + i) : ys = xs.reverse := by
 obtain ⟨h1, h2⟩ := h
 apply List.ext_getElem (by rw [List.length_reverse, h1, hx])
 intro k hk hk2
 have h3 := h2 k (by omega)
 rw [List.getElem_reverse]
 simp only [List.getD, List.getElem?_eq_getElem hk, Option.getD_some] at h3
 rw [h3]
 split
 ·simp [List.getElem?_eq_getElem (show l - 1 - k < xs.length by omega), hx]
 simp only [List.getElem?_eq_getElem (show k < xs.length by omega), Option.getD_some]
 congr 1; omega
end
end Go.Plain
namespace Go.Gx
open Go.RowKit
abbrev sd0 : SD := (none, 0, 0)
def BL (w : World) (F : Nat → Prop) (l : Nat) (qs : List SD) (bs : List (List UInt8)) : Prop := ∀ i, i < l → Sl w F u8v (qs.getD i sd0).1 (qs.getD i sd0).2.1 (qs.getD i sd0).2.2 (bs.getD i [])
section
variable {w w' : World} {T F G : Nat → Prop} {l : Nat} {qs : List SD} {bs : List (List UInt8)}
theorem BL.ch (h : BL w F l qs bs) (k : Ch T w w') (hn : ∀ i, F i → ¬ T i) : BL w' F l qs bs := fun i hi => (h i hi).ch k hn
theorem BL.old (h : BL w F l qs bs) : BL w (fun k => k < w.heap.size) l qs bs := fun i hi => (h i hi).old
end
structure RB (w : World) (N M : Nat) (E : TypeId) (A : Option Addr) (l c : Nat) (bs : List (List UInt8)) : Prop where
 ex : ∃ qs : List SD, Row w (fun k => N ≤ k ∧ k < M) E 1 (.slice A l c) l (qs.map sdv) ∧ BL w (fun k => k < M ∧ (Value.slice A l c).ownBlock ≠ some k) l qs bs
 len : bs.length = l
section
variable {w w' : World} {T : Nat → Prop} {N M M' : Nat} {E : TypeId} {A : Option Addr} {l c : Nat} {bs : List (List UInt8)}
theorem RB.ch (h : RB w N M E A l c bs) (k : Ch T w w') (hn : ∀ i, i < M → ¬ T i) : RB w' N M E A l c bs := by
 obtain ⟨⟨qs, h1, h2⟩, h3⟩ := h
 exact ⟨⟨qs, h1.ch k (fun i _ hi => hn i hi.2), h2.ch k (fun i hi => hn i hi.1)⟩, h3⟩
theorem RB.up (h : RB w N M E A l c bs) (hM : M ≤ M') : RB w N M' E A l c bs := by
 obtain ⟨⟨qs, h1, h2⟩, h3⟩ := h
 exact ⟨⟨qs, h1.mono (fun k _ hk => ⟨hk.1, by omega⟩), fun i hi => (h2 i hi).mono (fun k _ hk => ⟨by omega, hk.2⟩)⟩, h3⟩
theorem RB.sb (h : RB w N M E A l c bs) : SB w (fun k => k < w.heap.size) A l c bs := by
 obtain ⟨⟨qs, h1, h2⟩, h3⟩ := h
 exact ⟨⟨qs, h1.sl.old, fun i hi => (h2 i hi).old⟩, h3⟩
theorem RB.own (h : RB w N M E A l c bs) {k : Nat} (hk : (Value.slice A l c).ownBlock = some k) : N ≤ k ∧ k < M := by
 obtain ⟨⟨qs, h1, h2⟩, h3⟩ := h
 exact h1.at_ k hk
theorem RB.lit {g : Nat} {x : List UInt8} {A : Option Addr} {l c : Nat} {F : Nat → Prop} (hb : Blk w g E #[.slice A l c]) (hx : Sl w F u8v A l c x) (hF : ∀ k, F k → k < g) : RB w g (g + 1) E (some ⟨g, 0, none⟩) 1 1 [x] := by
 refine ⟨⟨[(A, l, c)], Row.lit (f := sdv) (xs := [(A, l, c)]) hb ⟨Nat.le_refl _, Nat.lt_succ_self _⟩ rfl rfl (by decide), fun i hi => ?_⟩, rfl⟩
 obtain rfl : i = 0 := by omega
 exact hx.mono (fun k _ hk => ⟨by have := hF k hk; omega, fun h => by
  have h1 : g = k := by simpa [Value.ownBlock] using h
  have := hF k hk; omega⟩)
variable {P : Program} {Q : Exit → Act → World → Prop} {n d : Nat} {e : Env} {K : Env → World → Prop} {rt : TypeId} {pos : String} {af : Array Edge} {gd : Option (Nat × Bool)}
end
end Go.Gx
