/-
  Own text: code behind a range over a function: an activation whose deferred calls hold a mark; the same rules.
-/
import Derived.Test.YtkfkdakghjlenaaDoorGxStop
set_option linter.unusedSimpArgs false
set_option linter.unusedVariables false
namespace Go.Gx
open Go.RowKit
abbrev Mk (b : Nat) : List Deferred := [{ target := .collected b, args := #[] }]
def WLd (P : Program) (ops : Array Oper) (Q : Exit → Act → World → Prop) (n : Nat) (ds : List Deferred) (l : List Oper) (e : Env) (w : World) : Prop := ∀ a, FrD n ds a e → wpList P ops Q l a w
def WCd (P : Program) (Q : Exit → Act → World → Prop) (n : Nat) (ds : List Deferred) (c : Code) (e : Env) (w : World) : Prop := ∀ a, FrD n ds a e → c.wp P Q a w
def WQd (Q : Exit → Act → World → Prop) (n : Nat) (ds : List Deferred) (x : Exit) (e : Env) (w : World) : Prop := ∀ a, FrD n ds a e → Q x a w
section
variable {P : Program} {ops : Array Oper} {Q : Exit → Act → World → Prop} {n : Nat} {ds : List Deferred} {e : Env} {w : World} {rest : List Oper} {o : Oper} {a : Act}
theorem FrD.bare (F : FrD n ds a e) : Fr n { a with defers := [] } e := ⟨F.size, rfl, F.get⟩
theorem FrD.of_put {d : Option Tmp} {v : Value} {e' : Env} (hds : a.defers = ds) (h : Fr n (({ a with defers := [] } : Act).put d v) e') : FrD n ds (a.put d v) e' := by
  cases d with
  | none => exact ⟨h.size, hds, h.get⟩
  | some d => exact ⟨h.size, hds, h.get⟩
theorem FrD.put (F : FrD n ds a e) {d : Nat} (hd : Nat.blt d n = true) (v : Value) : FrD n ds (a.put (some d) v) ((d, v) :: e) := FrD.of_put F.defs (F.bare.put hd v)
theorem wqd_ap {x : Exit} (h : WQd Q n ds x e w) (F : FrD n ds a e) : Q x a w := h a F
theorem wld {d : Nat} {v : Value} (hg : o.guard = none) (hd : o.dst = some d) (hlt : Nat.blt d n = true) (hp : Pu P (· = w) n o e v) (k : WLd P ops Q n ds rest ((d, v) :: e) w) : WLd P ops Q n ds (o :: rest) e w := by
  intro a F
  refine wpList_plain hg fun K hK => ?_
  have hr : (execOp a.eval o).run P w = .ok (.value v) w := hp _ F.bare w rfl
  simp only [Oper.wp, hr, Oper.upon, hd]
  exact hK _ _ (k _ (F.put hlt v))
theorem wlde0 {K : Env → World → Prop} (hg : o.guard = none) (h : OpE P n o e w (fun _ _ _ => False) K) (k : ∀ e' w', K e' w' → WLd P ops Q n ds rest e' w') : WLd P ops Q n ds (o :: rest) e w := by
  intro a F
  unfold wpList
  rw [if_pos (by simp [Region.wanted, hg])]
  left
  rcases h _ F.bare with h | h
  · have h' : o.upon P { a with defers := [] } (fun a' w' => ∃ e', Fr n a' e' ∧ K e' w') (fun _ _ _ => False) ((execOp a.eval o).run P w) := h
    show o.upon P a (wpList P ops Q rest) Q ((execOp a.eval o).run P w)
    revert h'
    generalize (execOp a.eval o).run P w = r
    intro h'
    have fin : ∀ (v : Value) (w' : World), (∃ e', Fr n (({ a with defers := [] } : Act).put o.dst v) e' ∧ K e' w') → wpList P ops Q rest (a.put o.dst v) w' := fun v w' ⟨e', F', hK⟩ => k e' w' hK _ (FrD.of_put F.defs F')
    cases r with
    | halt x w' => cases x <;> simp only [Oper.upon] at h' ⊢
    | ok nx w' =>
      cases nx with
      | value v => exact fin v w' h'
      | skip => exact fin undef w' h'
      | enter f args =>
        refine Calls.mono (show Calls P f args w' _ from h') fun ed w2 hed => ?_
        cases ed with
        | returned v => exact fin v w2 hed
        | panicked ch => exact hed.elim
        | outgrown => obtain ⟨_, _, hf⟩ := hed; exact hf.elim
      | row r args =>
        obtain h' : Rows P r args w' fun v w'' => ∃ e', Fr n (({ a with defers := [] } : Act).put o.dst v) e' ∧ K e' w'' := h'
        intro c cs
        obtain ⟨v, w2, hr, hs⟩ := h' c cs
        exact ⟨v, w2, fin v w2 hr, hs⟩
      | defer d =>
        obtain ⟨e', F', _⟩ := h'
        have hdf := F'.defs
        cases ho : o.dst with
        | none => rw [ho] at hdf; exact absurd hdf (by simp [Act.put])
        | some t => rw [ho] at hdf; exact absurd hdf (by simp [Act.put])
      | _ => simp only [Oper.upon] at h'
  · obtain ⟨_, _, hf⟩ := h.2; exact hf.elim
theorem wlde (hg : o.guard = none) (h : OpE P n o e w (fun _ _ _ => False) (fun e' w' => WLd P ops Q n ds rest e' w')) : WLd P ops Q n ds (o :: rest) e w := wlde0 hg h (fun _ _ h => h)
theorem wld_nil (h : WQd Q n ds .normal e w) : WLd P ops Q n ds [] e w := fun a F => h a F
theorem wcd_seq {x y : Code} (h : WCd P (Exit.then (NX P Q y) Q) n ds x e w) : WCd P Q n ds (.seq x y) e w := fun a F => wp_seq (h a F)
theorem wcd_region {id : Nat} {l : List Oper} (h : WLd P l.toArray Q n ds l e w) : WCd P Q n ds (.region id l.toArray false) e w := fun a F => wp_region_lit (h a F)
theorem wcd_skip (h : WQd Q n ds .normal e w) : WCd P Q n ds .skip e w := fun a F => wp_skip (h a F)
theorem wcd_ret (h : WQd Q n ds .ret e w) : WCd P Q n ds .ret e w := fun a F => wp_ret (h a F)
theorem wcd_exit {i : Nat} (h : WQd Q n ds (.exit i) e w) : WCd P Q n ds (.exit i) e w := fun a F => wp_exit (h a F)
theorem wcd_label {l : Nat} (h : WQd Q n ds .normal e w) : WCd P Q n ds (.label l) e w := fun a F => wp_label (h a F)
theorem wcd_block {i : Nat} {c : Code} (h : WCd P (Exit.inBlock i Q) n ds c e w) : WCd P Q n ds (.block i c) e w := fun a F => wp_block (h a F)
theorem wcd_if {c : Operand} {x y : Code} {b : Bool} (hc : ev e c = some (.bool b)) (ht : b = true → WCd P Q n ds x e w) (hf : b = false → WCd P Q n ds y e w) : WCd P Q n ds (.cond c x y) e w :=
  fun a F => wp_cond_split (show a.eval c = _ from F.bare.ev hc) (fun h => ht h a F) (fun h => hf h a F)
theorem wcd_yes {c : Operand} {x y : Code} {b : Bool} (hc : ev e c = some (.bool b)) (hb : b = true) (ht : WCd P Q n ds x e w) : WCd P Q n ds (.cond c x y) e w := wcd_if hc (fun _ => ht) (fun h => by rw [hb] at h; cases h)
theorem wcd_no {c : Operand} {x y : Code} {b : Bool} (hc : ev e c = some (.bool b)) (hb : b = false) (hf : WCd P Q n ds y e w) : WCd P Q n ds (.cond c x y) e w := wcd_if hc (fun h => by rw [hb] at h; cases h) (fun _ => hf)
theorem xd_seq {y : Code} {Q' : Exit → Act → World → Prop} (h : WCd P Q n ds y e w) : WQd (Exit.then (NX P Q y) Q') n ds .normal e w := h
theorem xd_then_exit {K : Act → World → Prop} {i : Nat} (h : WQd Q n ds (.exit i) e w) : WQd (Exit.then K Q) n ds (.exit i) e w := h
theorem xd_then_ret {K : Act → World → Prop} (h : WQd Q n ds .ret e w) : WQd (Exit.then K Q) n ds .ret e w := h
theorem xd_in_ret {i : Nat} (h : WQd Q n ds .ret e w) : WQd (Exit.inBlock i Q) n ds .ret e w := h
theorem xd_in_normal {i : Nat} (h : WQd Q n ds .normal e w) : WQd (Exit.inBlock i Q) n ds .normal e w := h
theorem xd_in_here {i : Nat} (h : WQd Q n ds .normal e w) : WQd (Exit.inBlock i Q) n ds (.exit i) e w := fun a F => by
  simp only [Exit.inBlock, if_true]; exact h a F
theorem xd_in_on {i j : Nat} (hij : Nat.beq j i = false) (h : WQd Q n ds (.exit j) e w) : WQd (Exit.inBlock i Q) n ds (.exit j) e w := fun a F => by
  have hne : j ≠ i := fun hh => by subst hh; simp at hij
  simp only [Exit.inBlock, if_neg hne]; exact h a F
/-- The function's end: the mark is come to. -/
theorem fin_runM {fn : Func} {R : Ending → World → Prop} {b : Nat} (hK : w.heap[b]? = some (.deferred (some []))) (k : ∀ w', Ch (fun k => k = b) w w' → w'.heap.size = w.heap.size → ∃ v, (∀ a, Fr n a e → (results fn a.tmps).run P w' = .ok v w') ∧ R (.returned v) w') : WQd (bodyPostM Fence.wide 1 P fn R) n (Mk b) .ret e w := by
  intro a F
  have c := ch_put w b (.deferred none)
  obtain ⟨v, h1, h2⟩ := k _ c (by simp [World.putObj])
  show LeavesInM Fence.wide 1 P fn a.tmps R a.defers .returning w
  rw [F.defs]
  exact ⟨by simp, .inl ⟨_, _, rfl, run_takeDeferred hK, v, h1 { a with defers := [] } F.bare, h2⟩⟩
/-- The function's end where no range was. -/
theorem fin_runM0 {fn : Func} {R : Ending → World → Prop} {v : Value} (hr : ∀ a, Fr n a e → (results fn a.tmps).run P w = .ok v w) (h : R (.returned v) w) : WQ (bodyPostM Fence.wide 1 P fn R) n .ret e w := by
  intro a F
  show LeavesInM Fence.wide 1 P fn a.tmps R a.defers .returning w
  rw [F.defs]
  exact ⟨v, hr a F, h⟩
end
end Go.Gx
