/-
  Own text: code behind a range over a function: an activation whose deferred calls hold a mark; the same rules.
-/
import Derived.Test.YtkfkdakghjlenaaDoorGxStop
set_option linter.unusedSimpArgs false
set_option linter.unusedVariables false
namespace Go.Gx
open Go.RowKit
abbrev Mk (b : Nat) : List Deferred := [{ target := .collected b, args := #[] }]
def WLd (P : Program) (ops : Array Oper) (Q : Exit → Act → World → Prop) (n : Nat) (ds : List Deferred) (l : List Oper) (e : Env) (w : World) : Prop := ∀ a, FrD n ds a e → wpList P ops Q l a w
def WCd (P : Program) (Q : Exit → Act → World → Prop) (n : Nat) (ds : List Deferred) (c : Code) (e : Env) (w : World) : Prop := ∀ a, FrD n ds a e → c.wp P Q a w
def WQd (Q : Exit → Act → World → Prop) (n : Nat) (ds : List Deferred) (x : Exit) (e : Env) (w : World) : Prop := ∀ a, FrD n ds a e → Q x a w
section
variable {P : Program} {ops : Array Oper} {Q : Exit → Act → World → Prop} {n : Nat} {ds : List Deferred} {e : Env} {w : World} {rest : List Oper} {o : Oper} {a : Act}
theorem FrD.bare (F : FrD n ds a e) : Fr n { a with defers := [] } e := ⟨F.size, rfl, F.get⟩
theorem FrD.of_put {d : Option Tmp} {v : Value} {e' : Env} (hds : a.defers = ds) (h : Fr n (({ a with defers := [] } : Act).put d v) e') : FrD n ds (a.put d v) e' := by
  cases d with
  | none => exact ⟨h.size, hds, h.get⟩
  | some d => exact ⟨h.size, hds, h.get⟩
theorem FrD.put (F : FrD n ds a e) {d : Nat} (hd : Nat.blt d n = true) (v : Value) : FrD n ds (a.put (some d) v) ((d, v) :: e) := FrD.of_put F.defs (F.bare.put hd v)
theorem wqd_ap {x : Exit} (h : WQd Q n ds x e w) (F : FrD n ds a e) : Q x a w := h a F
theorem wld {d : Nat} {v : Value} (hg : o.guard = none) (hd : o.dst = some d) (hlt : Nat.blt d n = true) (hp : Pu P (· = w) n o e v) (k : WLd P ops Q n ds rest ((d, v) :: e) w) : WLd P ops Q n ds (o :: rest) e w := by
  intro a F
  refine wpList_plain hg fun K hK => ?_
  have hr : (execOp a.eval o).run P w = .ok (.value v) w := hp _ F.bare w rfl
  simp only [Oper.wp, hr, Oper.upon, hd]
  exact hK _ _ (k _ (F.put hlt v))
theorem wld_nil (h : WQd Q n ds .normal e w) : WLd P ops Q n ds [] e w := fun a F => h a F
theorem wcd_seq {x y : Code} (h : WCd P (Exit.then (NX P Q y) Q) n ds x e w) : WCd P Q n ds (.seq x y) e w := fun a F => wp_seq (h a F)
theorem wcd_region {id : Nat} {l : List Oper} (h : WLd P l.toArray Q n ds l e w) : WCd P Q n ds (.region id l.toArray false) e w := fun a F => wp_region_lit (h a F)
theorem wcd_ret (h : WQd Q n ds .ret e w) : WCd P Q n ds .ret e w := fun a F => wp_ret (h a F)
theorem xd_seq {y : Code} {Q' : Exit → Act → World → Prop} (h : WCd P Q n ds y e w) : WQd (Exit.then (NX P Q y) Q') n ds .normal e w := h
theorem xd_in_normal {i : Nat} (h : WQd Q n ds .normal e w) : WQd (Exit.inBlock i Q) n ds .normal e w := h
/-- The function's end: the mark is come to. -/
theorem fin_runM {fn : Func} {R : Ending → World → Prop} {b : Nat} (hK : w.heap[b]? = some (.deferred (some []))) (k : ∀ w', Ch (fun k => k = b) w w' → w'.heap.size = w.heap.size → ∃ v, (∀ a, Fr n a e → (results fn a.tmps).run P w' = .ok v w') ∧ R (.returned v) w') : WQd (bodyPostM Fence.wide 1 P fn R) n (Mk b) .ret e w := by
  intro a F
  have c := ch_put w b (.deferred none)
  obtain ⟨v, h1, h2⟩ := k _ c (by simp [World.putObj])
  show LeavesInM Fence.wide 1 P fn a.tmps R a.defers .returning w
  rw [F.defs]
  exact ⟨by simp, .inl ⟨_, _, rfl, run_takeDeferred hK, v, h1 { a with defers := [] } F.bare, h2⟩⟩
end
end Go.Gx
