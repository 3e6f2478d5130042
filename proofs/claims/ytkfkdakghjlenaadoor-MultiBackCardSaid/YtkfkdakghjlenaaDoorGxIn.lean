/-
  Own text: a plain region walked inside the wide fence: what the range over a function wants: a call of a round, the body of a round.
-/
import Derived.Test.YtkfkdakghjlenaaDoorGxAny
import Derived.RangeFuncNested
import Derived.RangeFuncBound
import Derived.RangeFuncCalls
import Derived.RangeFuncLeaves
import Derived.TacticsIn
import Derived.Shelf.Abstract
set_option linter.unusedSimpArgs false
set_option linter.unusedVariables false
namespace Go.Gx
open Go.RowKit
/-- The wide fence, in a round or in none. -/
def FW : Option Nat → Fence
  | none => Fence.wide
  | some l => Fence.wide.inRound l
theorem FW_depth (ro : Option Nat) : (FW ro).depth = none := by cases ro <;> rfl
theorem FW_fn (ro : Option Nat) (f : FuncId) : (FW ro).fn f := by cases ro <;> trivial
theorem FW_calls {ro : Option Nat} {n : Nat} {P : Program} {f : FuncId} {args : Array Value} {w : World} {R : Ending → World → Prop} (h : Calls P f args w R) : CallsIn (FW ro) n P f args w R := by
  cases ro with
  | none => exact callsIn_wide.2 h
  | some l => exact CallsIn.inRound l (callsIn_wide.2 h)
theorem FW_rows {ro : Option Nat} {n : Nat} {P : Program} {row : String} {args : Array Value} {w : World} {R : Value → World → Prop} (h : Rows P row args w R) : RowsIn (FW ro) n P row args w R := fun c cs _ => by
  obtain ⟨v, w', r, s⟩ := h c cs
  refine ⟨v, w', r, ?_⟩
  cases ro with
  | none => exact stepsIn_wide.2 s
  | some l => exact stepsIn_wide.2 s
section
variable {P : Program} {ops : Array Oper} {Q : Exit → Act → World → Prop} {n m : Nat} {ro : Option Nat} {e : Env} {w : World} {rest : List Oper} {o : Oper}
def WLi (P : Program) (ops : Array Oper) (Q : Exit → Act → World → Prop) (n m : Nat) (ro : Option Nat) (l : List Oper) (e : Env) (w : World) : Prop := ∀ a, Fr n a e → wpListIn (FW ro) m P ops Q l a w
theorem in_of_wp {a : Act} {K : Act → World → Prop} (hnd : ∀ c, o.op ≠ .defer c) (h : o.wp P a w K Q) : o.wpIn (FW ro) m P a w K Q := by
  refine ⟨fun f _ => FW_fn ro f, ?_⟩
  rw [Oper.semAt_eq _ _ _ hnd]
  unfold Oper.wp at h
  revert h
  generalize (execOp a.eval o).run P w = r
  intro h
  cases r with
  | halt x w' => cases x <;> simp only [Oper.upon, Oper.uponIn] at h ⊢ <;> exact h
  | ok nx w' =>
    cases nx with
    | value v => exact h
    | skip => exact h
    | enter f args => exact ⟨fun hd => (by rw [FW_depth] at hd; cases hd), FW_calls h⟩
    | round l f t a b => simp only [Oper.upon] at h
    | defer d => exact h
    | row r args => exact ⟨fun hd => (by rw [FW_depth] at hd; cases hd), FW_rows h⟩
    | _ => simp only [Oper.upon] at h
theorem wli {d : Nat} {v : Value} (hg : o.guard = none) (hd : o.dst = some d) (hlt : Nat.blt d n = true) (hp : Pu P (· = w) n o e v) (k : WLi P ops Q n m ro rest ((d, v) :: e) w) (hnd : ∀ c, o.op ≠ .defer c := by intro c h; cases h) : WLi P ops Q n m ro (o :: rest) e w := by
  intro a F
  unfold wpListIn
  rw [if_pos (by simp [Region.wanted, hg])]
  refine in_of_wp hnd ?_
  simp only [Oper.wp, hp a F w rfl, Oper.upon, hd]
  exact k _ (F.put hlt v)
theorem wlie (hg : o.guard = none) (hno : ¬ LetsOut Q) (h : OpE P n o e w Q (fun e' w' => WLi P ops Q n m ro rest e' w')) (hnd : ∀ c, o.op ≠ .defer c := by intro c h; cases h) : WLi P ops Q n m ro (o :: rest) e w := by
  intro a F
  unfold wpListIn
  rw [if_pos (by simp [Region.wanted, hg])]
  rcases h a F with h | h
  · exact in_of_wp hnd (Oper.wp_mono (fun a' w' ⟨e', F', hk⟩ => hk a' F') h)
  · exact absurd h.2 hno
theorem wli_nil (h : WQ Q n .normal e w) : WLi P ops Q n m ro [] e w := fun a F => h a F
/-- A round is called. -/
theorem wli_yield {d : Nat} {f : Operand} {xs : Array Operand} {ts : Array TypeId} {l : Nat} {vs : List Value} {R : Ending → World → Prop} {rt : TypeId} {pos : String} {af : Array Edge} {gd : Option (Nat × Bool)} (hg : ∀ a, Fr n a e → Region.wanted ⟨some d, .call { callee := .value f, args := xs, argTypes := ts }, rt, pos, af, gd⟩ (yielded ops a.tmps) = true) (hlt : Nat.blt d n = true)
    (hf : ev e f = some (.func (.yield l) #[] #[])) (hx : evs e xs.toList = some vs) (hy : YieldAt Fence.wide (m - 1) P l vs.toArray w R) (hno : ¬ LetsOut Q)
    (k : ∀ ed w', R ed w' → ∃ v, ed = .returned v ∧ WLi P ops Q n m none rest ((d, v) :: e) w') : WLi P ops Q n m none (⟨some d, .call { callee := .value f, args := xs, argTypes := ts }, rt, pos, af, gd⟩ :: rest) e w := by
  intro a F
  unfold wpListIn
  rw [if_pos (hg a F)]
  obtain ⟨fn, tmps, assign, body, hrun, hR⟩ := hy
  refine ⟨fun f _ => FW_fn none f, ?_⟩
  rw [Oper.semAt_eq _ _ _ (by intro c h; cases h)]
  have hargs : xs.map a.eval = vs.toArray := by
    apply Array.toList_inj.1
    simp [F.evs hx]
  have he : (execOp a.eval ⟨some d, .call { callee := .value f, args := xs, argTypes := ts }, rt, pos, af, gd⟩).run P w = .ok (.round l fn tmps assign body) w := by
    simp [execOp, resolve, invoke, Deferred.ofValue, F.ev hf, hargs, hrun]
  rw [he]
  refine ⟨fun hd => (by rw [FW_depth] at hd; cases hd), hR.mono fun ed w' hed => ?_⟩
  obtain ⟨v, rfl, hk⟩ := k ed w' hed
  exact hk _ (F.put hlt v)
theorem no_then {K : Act → World → Prop} (h : ¬ LetsOut Q) : ¬ LetsOut (Exit.then K Q) := fun ⟨a, w, hq⟩ => h ⟨a, w, hq⟩
theorem no_in {i : Nat} (h : ¬ LetsOut Q) : ¬ LetsOut (Exit.inBlock i Q) := fun ⟨a, w, hq⟩ => h ⟨a, w, hq⟩
theorem no_body {fn : Func} {R : Ending → World → Prop} (h : ∀ w, ¬ R .outgrown w) : ¬ LetsOut (bodyPost P fn R) := fun ⟨a, w, hq⟩ => h w (by first | exact hq | exact hq.2)
end
theorem ch_put (W : World) (l : Nat) (o : Obj) : Ch (fun k => k = l) W (W.putObj l o) := ⟨rfl, rfl, rfl, by simp [World.putObj], fun k _ hn => World.putObj_heap_other (fun h => hn h)⟩
theorem Ch.heap {T : Nat → Prop} {W W' : World} (c : Ch T W W') {k : Nat} {o : Obj} (h : W.heap[k]? = some o) (hn : ¬ T k) : W'.heap[k]? = some o := (c.block k (Array.getElem?_eq_some_iff.1 h).1 hn).trans h
/-- What a frame knows, with marks among its deferred calls. -/
structure FrD (n : Nat) (ds : List Deferred) (a : Act) (e : Env) : Prop where
  size : a.tmps.size = n
  defs : a.defers = ds
  get : ∀ t v, look t e = some v → a.tmps.getD t undef = v
section
variable {P : Program} {Q : Exit → Act → World → Prop} {n : Nat} {e : Env} {w : World}
/-- A function with such a range in its body. -/
theorem enterM {f : FuncId} {fn : Func} {c : Code} {args : List Value} {R : Ending → World → Prop} (hf : P.funcs[f]? = some fn) (hb : fn.body = some c) (hn : fn.ntmps = n)
    (hl : Nat.ble args.length n = true) (h : WC P (bodyPostM Fence.wide 1 P fn R) n c (slots 0 args) w) : Calls P f args.toArray w R := by
  have hle : args.length ≤ n := Nat.le_of_ble_eq_true hl
  refine (callsIn_wide (n := 1)).1 (callsIn_of_wp_marks hf hb trivial (wpIn_wide.2 (h _ ⟨?_, rfl, ?_⟩)))
  · simp [hn]; omega
  · refine slots_get _ args 0 (fun i v hi => ?_)
    have hlt : i < args.length := (List.getElem?_eq_some_iff.1 hi).1
    have h2 : args[i]'hlt = v := (List.getElem?_eq_some_iff.1 hi).2
    simp [Array.getElem?_append, hlt, h2]
end
theorem FrD.sub {n : Nat} {ds : List Deferred} {a : Act} {e e' : Env} (F : FrD n ds a e) (h : Sub e e') : FrD n ds a e' := ⟨F.size, F.defs, fun t v hv => F.get t v (h.look t v hv)⟩
/-- What a round is handed lies in its slots: two values. -/
theorem Fr.hand2 {n : Nat} {a : Act} {e : Env} (F : Fr n a e) {p q : Nat} {u v : Value} (hp : Nat.blt p n = true) (hq : Nat.blt q n = true) : Fr n { tmps := (#[p, q].zip #[u, v]).foldl (fun t (p, v) => t.setIfInBounds p v) a.tmps, defers := [] } ((q, v) :: (p, u) :: e) := by
  have h := (F.put hp u).put hq v
  exact ⟨by simpa [Act.put] using h.size, rfl, fun t x hx => by simpa [Act.put] using h.get t x hx⟩
def AllPu (P : Program) (w : World) (n : Nat) (e : Env) (dsts : List Nat) (deps : Nat → List Nat) (vals : Nat → Value) : Nat → List Oper → Prop
  | _, [] => True
  | k, o :: r => Pu P (· = w) n o ((deps k).map (fun j => (dsts.getD j 0, vals j)) ++ e) (vals k) ∧ AllPu P w n e dsts deps vals (k + 1) r
theorem AllPu.at_ {P : Program} {w : World} {n : Nat} {e : Env} {dsts : List Nat} {deps : Nat → List Nat} {vals : Nat → Value} : ∀ {l : List Oper} {k : Nat}, AllPu P w n e dsts deps vals k l → ∀ {i : Nat} {o : Oper}, l[i]? = some o → Pu P (· = w) n o ((deps (k + i)).map (fun j => (dsts.getD j 0, vals j)) ++ e) (vals (k + i))
  | [], _, _, i, _, h => by simp at h
  | _ :: _, k, h, 0, _, ho => by simp at ho; subst ho; exact h.1
  | _ :: r, k, h, i + 1, _, ho => by have := h.2.at_ (l := r) (by simpa using ho); rwa [show k + 1 + i = k + (i + 1) from by omega] at this
end Go.Gx
