/-
  Own text: a region that draws its order, walked in ONE order: what only yields a value (in every world, or in every world of S) is taken as soon as it may; what has an effect stands alone when it comes up.
  S is kept till operation number tau comes up; whoever yields in the worlds of S alone must come ahead of tau by an edge.
-/
import Derived.Test.YtkfkdakghjlenaaDoorGxCore
import Derived.Orders
set_option linter.unusedSimpArgs false
set_option linter.unusedVariables false
namespace Go.Gx
open Go.RowKit

/-- A panic's post looks at a frame's deferred calls alone. -/
def PanOK (Q : Exit → Act → World → Prop) : Prop := ∀ c (a a' : Act) w, a.defers = a'.defers → Q (.panic c) a w → Q (.panic c) a' w
theorem pan_then {K : Act → World → Prop} {Q : Exit → Act → World → Prop} (h : PanOK Q) : PanOK (Exit.then K Q) := fun c a a' w hd hq => h c a a' w hd hq
theorem pan_in {i : Nat} {Q : Exit → Act → World → Prop} (h : PanOK Q) : PanOK (Exit.inBlock i Q) := fun c a a' w hd hq => h c a a' w hd hq
theorem pan_body {P : Program} {fn : Func} {R : Ending → World → Prop} : PanOK (bodyPost P fn R) := fun _ _ _ _ hd hq => ⟨hd ▸ hq.1, hq.2⟩

section
variable {P : Program} {ops : Array Oper} {Q : Exit → Act → World → Prop} {S : World → Prop} {tau : Nat} {n : Nat} {e : Env} {w : World} {md : Region.Mode}

/-- From here on, in whatever order; S holds behind each operation till tau has come up. -/
def wpV (P : Program) (md : Region.Mode) (ops : Array Oper) (Q : Exit → Act → World → Prop) (S : World → Prop) (tau : Nat) : Nat → Array Bool → Act → World → Prop
  | 0, listed, a, w => Region.ready md ops listed = [] ∧ Q .normal a w
  | k + 1, listed, a, w => (Region.ready md ops listed = [] → Q .normal a w) ∧ ∀ i ∈ Region.ready md ops listed, wpOp P ops Q i (fun a' w' => ((listed.setIfInBounds i true).getD tau false = true ∨ S w') ∧ wpV P md ops Q S tau k (listed.setIfInBounds i true) a' w') a w
theorem wpAny_of_wpV : ∀ (k : Nat) (listed : Array Bool) (a : Act) (w : World), wpV P md ops Q S tau k listed a w → wpAny P md ops Q k listed a w
  | 0, _, _, _, h => h
  | k + 1, _, _, _, h => ⟨h.1, fun i hi => wpOp_mono (fun a' w' h' => wpAny_of_wpV k _ a' w' h'.2) (h.2 i hi)⟩

theorem wpV_mono {S' : World → Prop} (hs : ∀ w, S' w → S w) : ∀ (k : Nat) (listed : Array Bool) (a : Act) (w : World), wpV P md ops Q S' tau k listed a w → wpV P md ops Q S tau k listed a w
  | 0, _, _, _, h => h
  | k + 1, _, _, _, h => ⟨h.1, fun i hi => wpOp_mono (fun a' w' h' => ⟨h'.1.imp id (hs w'), wpV_mono hs k _ a' w' h'.2⟩) (h.2 i hi)⟩

/-- The operation yields v, in each world of S. -/
def Yl (P : Program) (ops : Array Oper) (S : World → Prop) (o : Oper) (v : Value) (a : Act) : Prop :=
  (Region.wanted o (yielded ops a.tmps) = true ∧ ∀ w, S w → (execOp a.eval o).run P w = .ok (.value v) w) ∨ (Region.wanted o (yielded ops a.tmps) = false ∧ v = undef)
theorem Yl.same {o : Oper} {v : Value} {a a' : Act} (h : Yl P ops S o v a) (he : execOp a'.eval o = execOp a.eval o) (hw : Region.wanted o (yielded ops a'.tmps) = Region.wanted o (yielded ops a.tmps)) : Yl P ops S o v a' := by
  unfold Yl at *; rw [he, hw]; exact h
theorem Yl.op {i : Nat} {o : Oper} {v : Value} {a : Act} (hi : ops[i]? = some o) (hy : Yl P ops S o v a) (hS : S w) {K : Act → World → Prop} (h : K (a.put o.dst v) w) : wpOp P ops Q i K a w := by
  unfold wpOp
  simp only [hi]
  rcases hy with ⟨hw, hv⟩ | ⟨hw, rfl⟩
  · rw [if_pos hw]; exact .inl (by simp only [Oper.wp, hv w hS, Oper.upon]; exact h)
  · rw [if_neg (by rw [hw]; decide)]; exact h

/-- Two operations that touch no slot of one another: the one's value may lie in its slot already. -/
theorem swap {j : Nat} {oi oj : Oper} {v : Value} {K : Act → World → Prop} {a : Act} (hj : ops[j]? = some oj) (hap : oi.apart ops oj = true) (hsi : ∀ cs b, oi.op ≠ .select cs b) (hsj : ∀ cs b, oj.op ≠ .select cs b) (hQ : PanOK Q)
    (hy : Yl P ops S oi v a) (h : wpOp P ops Q j K (a.put oi.dst v) w) : wpOp P ops Q j (fun a' w' => Yl P ops S oi v a' ∧ K (a'.put oi.dst v) w') a w := by
  obtain ⟨h1, h2, h3⟩ := Oper.apart_spec hap
  have keep : ∀ (b : Act), Yl P ops S oi v b → ∀ u, Yl P ops S oi v (b.put oj.dst u) := fun b hb u => hb.same (execOp_put oi hsi b oj.dst u h3) (wanted_put oi b oj.dst u h3)
  have hx : execOp (a.put oi.dst v).eval oj = execOp a.eval oj := execOp_put oj hsj a oi.dst v h1
  have hwt : Region.wanted oj (yielded ops (a.put oi.dst v).tmps) = Region.wanted oj (yielded ops a.tmps) := wanted_put oj a oi.dst v h1
  have comm : ∀ u, (a.put oi.dst v).put oj.dst u = (a.put oj.dst u).put oi.dst v := fun u => Act.put_comm a v u h2
  unfold wpOp at h ⊢
  simp only [hj, hwt] at h ⊢
  by_cases hw : Region.wanted oj (yielded ops a.tmps) = true
  · rw [if_pos hw] at h ⊢
    refine h.imp (fun h => ?_) (fun h => ⟨by have := h.1; unfold Oper.asks at this ⊢; rwa [hx] at this, h.2⟩)
    unfold Oper.wp at h ⊢
    rw [hx] at h
    revert h
    generalize (execOp a.eval oj).run P w = r
    intro h
    cases r with
    | halt x w' =>
      cases x <;> simp only [Oper.upon] at h ⊢
      exact hQ _ _ _ _ (by cases oi.dst <;> rfl) h
    | ok nx w' =>
      cases nx <;> simp only [Oper.upon] at h ⊢
      · exact ⟨keep a hy _, by rw [← comm]; exact h⟩
      · exact ⟨keep a hy _, by rw [← comm]; exact h⟩
      · rename_i f args
        refine Calls.mono h fun ed w2 hed => ?_
        cases ed with
        | returned u => exact ⟨keep a hy u, by rw [← comm]; exact hed⟩
        | panicked c => exact hQ _ _ _ _ (by cases oi.dst <;> rfl) hed
        | outgrown => exact hed
      · rename_i d
        refine ⟨keep _ (hy.same (a' := { a with defers := d :: a.defers }) rfl rfl) _, ?_⟩
        rw [← Act.put_comm _ v undef h2, ← Act.put_defers]
        exact h
      · exact Rows.mono h fun u w2 hed => ⟨keep a hy u, by rw [← comm]; exact hed⟩
  · rw [if_neg hw] at h ⊢
    exact ⟨keep a hy _, by rw [← comm]; exact h⟩

/-- What was listed has come up behind all that it waits for. -/
def Closed (md : Region.Mode) (ops : Array Oper) (listed : Array Bool) : Prop := ∀ m om, ops[m]? = some om → listed.getD m false = true → ∀ x ∈ om.after, Region.binds md x = true → listed.getD x.on false = true
theorem Closed.step {listed : Array Bool} {j : Nat} (h : Closed md ops listed) (hj : j ∈ Region.ready md ops listed) : Closed md ops (listed.setIfInBounds j true) := by
  obtain ⟨_, oj, hoj, hall⟩ := mem_ready.1 hj
  intro m om hm hl x hx hb
  by_cases hmj : j = m
  · subst hmj
    have : oj = om := Option.some.inj (hoj.symm.trans hm)
    subst this
    exact getD_set_true (hall x hx hb)
  · rw [getD_set_ne false hmj] at hl
    exact getD_set_true (h m om hm hl x hx hb)
theorem closed_none (k : Nat) : Closed md ops (Array.replicate k false) := by
  intro m om hm hl
  exfalso
  rcases Nat.lt_or_ge m k with h | h
  · simp [h] at hl
  · simp [Nat.not_lt.2 h] at hl
/-- Operation t waits for i, by edges in k steps or less. -/
def waitsN (md : Region.Mode) (ops : Array Oper) : Nat → Nat → Nat → Bool
  | 0, _, _ => false
  | k + 1, t, i => match ops[t]? with
    | some ot => (ot.after.any fun x => Region.binds md x && x.on == i) || (ot.after.any fun x => Region.binds md x && waitsN md ops k x.on i)
    | none => false
theorem waitsN_spec {listed : Array Bool} (hc : Closed md ops listed) {i : Nat} : ∀ (k t : Nat), waitsN md ops k t i = true → (∀ ot, ops[t]? = some ot → ∀ x ∈ ot.after, Region.binds md x = true → listed.getD x.on false = true) → listed.getD i false = true
  | 0, _, h, _ => by simp [waitsN] at h
  | k + 1, t, h, hl => by
    unfold waitsN at h
    cases ho : ops[t]? with
    | none => simp [ho] at h
    | some ot =>
      simp only [ho, Bool.or_eq_true] at h
      rcases h with h | h
      · obtain ⟨x, hx, hb⟩ := Array.any_eq_true'.1 h
        simp only [Bool.and_eq_true, beq_iff_eq] at hb
        rw [← hb.2]; exact hl ot ho x hx hb.1
      · obtain ⟨x, hx, hb⟩ := Array.any_eq_true'.1 h
        simp only [Bool.and_eq_true] at hb
        exact waitsN_spec hc k x.on hb.2 (fun ot2 ho2 => hc x.on ot2 ho2 (hl ot ho x hx hb.1))
/-- Such an operation may be taken first. -/
theorem first_ {i : Nat} {oi : Oper} {v : Value} (hi : ops[i]? = some oi) (hsel : ∀ (j : Nat) (o : Oper) cs b, ops[j]? = some o → o.op ≠ .select cs b) (hQ : PanOK Q) (hne : i ≠ tau) :
    ∀ (k : Nat) (listed : Array Bool) (S' : World → Prop), ((∀ w, S' w) ∨ ((∀ w, S w → S' w) ∧ listed.getD tau false = false ∧ waitsN md ops 8 tau i = true) ∨ ((∀ w, S w → S' w) ∧ listed.getD tau false = false ∧ ops.size ≤ tau)) → Closed md ops listed → ∀ (a : Act) (w : World),
      (∀ j oj, ops[j]? = some oj → j ≠ i → listed.getD j true = false → (∀ x ∈ oj.after, Region.binds md x = true → x.on ≠ i) → oi.apart ops oj = true) →
      i ∈ Region.ready md ops listed → Yl P ops S' oi v a → (listed.getD tau false = true ∨ S w) →
      wpV P md ops Q S tau k (listed.setIfInBounds i true) (a.put oi.dst v) w → wpV P md ops Q S tau (k + 1) listed a w := by
  intro k
  induction k with
  | zero =>
    intro listed S' hS' hcl a w _ hr hy hS H
    have hSw : S' w := by
      rcases hS' with h | ⟨h, ht, _⟩ | ⟨h, ht, _⟩
      · exact h w
      · rcases hS with h' | h'
        · rw [ht] at h'; cases h'
        · exact h w h'
      · rcases hS with h' | h'
        · rw [ht] at h'; cases h'
        · exact h w h'
    refine ⟨(fun h => by rw [h] at hr; cases hr), fun j hj => ?_⟩
    by_cases hji : j = i
    · subst hji
      refine hy.op hi hSw ⟨?_, H⟩
      rcases hS with h' | h'
      · exact .inl (by rw [getD_set_ne false hne]; exact h')
      · exact .inr h'
    · have := ready_mono hj hji
      rw [H.1] at this; cases this
  | succ k ih =>
    intro listed S' hS' hcl a w hfree hr hy hS H
    have hSw : S' w := by
      rcases hS' with h | ⟨h, ht, _⟩ | ⟨h, ht, _⟩
      · exact h w
      · rcases hS with h' | h'
        · rw [ht] at h'; cases h'
        · exact h w h'
      · rcases hS with h' | h'
        · rw [ht] at h'; cases h'
        · exact h w h'
    have hiun : listed.getD i true = false := (mem_ready.1 hr).1
    refine ⟨(fun h => by rw [h] at hr; cases hr), fun j hj => ?_⟩
    by_cases hji : j = i
    · subst hji
      refine hy.op hi hSw ⟨?_, H⟩
      rcases hS with h' | h'
      · exact .inl (by rw [getD_set_ne false hne]; exact h')
      · exact .inr h'
    · have h1 := H.2 j (ready_mono hj hji)
      obtain ⟨hjun, oj, hoj, hall⟩ := mem_ready.1 hj
      have hnot : ∀ x ∈ oj.after, Region.binds md x = true → x.on ≠ i := fun x hx hb heq => by
        have h2 := hall x hx hb
        rw [heq] at h2
        rcases Nat.lt_or_ge i listed.size with h' | h'
        · simp [h'] at hiun h2; rw [hiun] at h2; cases h2
        · simp [Array.getElem?_eq_none h'] at h2
      have h2 := swap (S := S') hoj (hfree j oj hoj hji hjun hnot) (fun cs b => hsel i oi cs b hi) (fun cs b => hsel j oj cs b hoj) hQ hy h1
      have hjt : waitsN md ops 8 tau i = true → j ≠ tau := by
        rintro hw rfl
        have h5 := waitsN_spec hcl 8 j hw (fun ot hot x hx hb => by
          have : oj = ot := Option.some.inj (hoj.symm.trans hot)
          subst this
          exact hall x hx hb)
        rcases Nat.lt_or_ge i listed.size with h' | h'
        · simp [h'] at hiun h5; rw [hiun] at h5; cases h5
        · simp [Array.getElem?_eq_none h'] at h5
      refine wpOp_mono (fun a' w' h3 => ?_) h2
      obtain ⟨hy', hS2, H2⟩ := h3
      have hS3 : (listed.setIfInBounds j true).getD tau false = true ∨ S w' := by
        rcases hS2 with h | h
        · left
          rw [Array.setIfInBounds_comm _ _ (Ne.symm hji), getD_set_ne false hne] at h
          exact h
        · exact .inr h
      refine ⟨hS3, ih (listed.setIfInBounds j true) S' ?_ (hcl.step hj) a' w' ?_ (ready_mono hr (Ne.symm hji)) hy' hS3 ?_⟩
      · rcases hS' with h | ⟨h, ht, hw⟩ | ⟨h, ht, hsz⟩
        · exact .inl h
        · exact .inr (.inl ⟨h, by rw [getD_set_ne false (hjt hw)]; exact ht, hw⟩)
        · refine .inr (.inr ⟨h, ?_, hsz⟩)
          have hjl : j < ops.size := (Array.getElem?_eq_some_iff.1 hoj).1
          rw [getD_set_ne false (by omega)]; exact ht
      · intro m om hm hmi hun hno
        refine hfree m om hm hmi ?_ hno
        by_cases hjm : j = m
        · subst hjm; exact hjun
        · rw [getD_set_ne true hjm] at hun; exact hun
      · rw [Array.setIfInBounds_comm _ _ hji]; exact H2

/-- An order, or several where effects may come up in either order. Marks: 0 yields in every world, 1 in those of S, 2 has an effect and keeps S, 3 has an effect (tau, or behind it). -/
inductive OT where
  | nil : OT
  | st (i p : Nat) (r : OT) : OT
  | alt (x y : OT) : OT
def OT.len : OT → Nat
  | .nil => 0
  | .st _ _ r => r.len + 1
  | .alt x _ => x.len
def OT.heads : OT → List Nat
  | .nil => []
  | .st i _ _ => [i]
  | .alt x y => x.heads ++ y.heads

inductive WS0 (P : Program) (ops : Array Oper) (Q : Exit → Act → World → Prop) (n : Nat) : (World → Prop) → OT → Env → World → Prop
  | nil {S : World → Prop} {e : Env} {w : World} (h : WQ Q n .normal e w) : WS0 P ops Q n S .nil e w
  | pure {S : World → Prop} {i : Nat} {o : Oper} {d : Nat} {v : Value} {r : OT} {e : Env} {w : World} (ho : ops[i]? = some o) (hg : ∀ a, Fr n a e → Region.wanted o (yielded ops a.tmps) = true) (hd : o.dst = some d) (hlt : Nat.blt d n = true) (hp : Pu P (fun _ => True) n o e v) (k : WS0 P ops Q n S r ((d, v) :: e) w) : WS0 P ops Q n S (.st i 0 r) e w
  | held {S : World → Prop} {i : Nat} {o : Oper} {d : Nat} {v : Value} {r : OT} {e : Env} {w : World} (ho : ops[i]? = some o) (hg : ∀ a, Fr n a e → Region.wanted o (yielded ops a.tmps) = true) (hd : o.dst = some d) (hlt : Nat.blt d n = true) (hp : Pu P S n o e v) (k : WS0 P ops Q n S r ((d, v) :: e) w) : WS0 P ops Q n S (.st i 1 r) e w
  | skip {S : World → Prop} {i : Nat} {o : Oper} {d : Nat} {r : OT} {b : Nat} {e : Env} {w : World} (ho : ops[i]? = some o) (hg : ∀ a, Fr n a e → Region.wanted o (yielded ops a.tmps) = false) (hd : o.dst = some d) (hlt : Nat.blt d n = true) (k : WS0 P ops Q n S r ((d, undef) :: e) w) : WS0 P ops Q n S (.st i b r) e w
  | skip0 {S : World → Prop} {i : Nat} {o : Oper} {r : OT} {b : Nat} {e : Env} {w : World} (ho : ops[i]? = some o) (hg : ∀ a, Fr n a e → Region.wanted o (yielded ops a.tmps) = false) (hd : o.dst = none) (k : WS0 P ops Q n S r e w) : WS0 P ops Q n S (.st i b r) e w
  | eff {S : World → Prop} {i : Nat} {o : Oper} {r : OT} {e : Env} {w : World} (K : Env → World → Prop) (ho : ops[i]? = some o) (hg : ∀ a, Fr n a e → Region.wanted o (yielded ops a.tmps) = true) (h : OpE P n o e w Q K) (hk : ∀ e' w', K e' w' → S w') (k : ∀ e' w', K e' w' → WS0 P ops Q n S r e' w') : WS0 P ops Q n S (.st i 2 r) e w
  | last {S : World → Prop} {i : Nat} {o : Oper} {r : OT} {e : Env} {w : World} (K : Env → World → Prop) (ho : ops[i]? = some o) (hg : ∀ a, Fr n a e → Region.wanted o (yielded ops a.tmps) = true) (h : OpE P n o e w Q K) (k : ∀ e' w', K e' w' → WS0 P ops Q n S r e' w') : WS0 P ops Q n S (.st i 3 r) e w
  | narrow {S S' : World → Prop} {l : OT} {e : Env} {w : World} (hw : S' w) (hs : ∀ x, S' x → S x) (k : WS0 P ops Q n S' l e w) : WS0 P ops Q n S l e w
  | alt {S : World → Prop} {x y : OT} {e : Env} {w : World} (h : WS0 P ops Q n S x e w) (k : WS0 P ops Q n S y e w) : WS0 P ops Q n S (.alt x y) e w
abbrev WS (P : Program) (ops : Array Oper) (Q : Exit → Act → World → Prop) (S : World → Prop) (n : Nat) (l : OT) (e : Env) (w : World) : Prop := WS0 P ops Q n S l e w

def waits (md : Region.Mode) (ops : Array Oper) (t i : Nat) : Bool := Nat.ble ops.size t || waitsN md ops 8 t i
/-- The order is one that serves; solo: nothing else may come up here. -/
def seqOK (md : Region.Mode) (ops : Array Oper) (tau : Nat) : OT → Bool → Array Bool → Bool
  | .nil, solo, listed => solo && (Region.ready md ops listed).isEmpty
  | .st i p r, solo, listed => (match p with
      | 0 => solo && (Region.ready md ops listed).contains i && Region.free md ops listed i && i != tau
      | 1 => solo && (Region.ready md ops listed).contains i && Region.free md ops listed i && i != tau && !listed.getD tau false && (waits md ops tau i)
      | 2 => (!solo || (Region.ready md ops listed) == [i]) && i != tau
      | _ => (!solo || (Region.ready md ops listed) == [i]) && (listed.setIfInBounds i true).getD tau false) && seqOK md ops tau r true (listed.setIfInBounds i true)
  | .alt x y, solo, listed => (!solo || ((Region.ready md ops listed).all (x.heads ++ y.heads).contains && !(Region.ready md ops listed).isEmpty)) && x.len == y.len && seqOK md ops tau x false listed && seqOK md ops tau y false listed

theorem waits_spec {t i : Nat} (h : waits md ops t i = true) : waitsN md ops 8 t i = true ∨ ops.size ≤ t := by
  unfold waits at h
  rcases Bool.or_eq_true_iff.1 h with h | h
  · exact .inr (Nat.le_of_ble_eq_true h)
  · exact .inl h

/-- What is shown of the order's first effects, each. -/
def Hd (P : Program) (ops : Array Oper) (Q : Exit → Act → World → Prop) (S : World → Prop) (tau : Nat) (t : OT) (listed : Array Bool) (a : Act) (w : World) : Prop :=
  ∀ i ∈ t.heads, i ∈ Region.ready .any ops listed → wpOp P ops Q i (fun a' w' => ((listed.setIfInBounds i true).getD tau false = true ∨ S w') ∧ wpV P .any ops Q S tau (t.len - 1) (listed.setIfInBounds i true) a' w') a w
theorem alone {i : Nat} {listed : Array Bool} {a : Act} {m : Nat} (hr : Region.ready md ops listed = [i]) (h : wpOp P ops Q i (fun a' w' => ((listed.setIfInBounds i true).getD tau false = true ∨ S w') ∧ wpV P md ops Q S tau m (listed.setIfInBounds i true) a' w') a w) : wpV P md ops Q S tau (m + 1) listed a w :=
  ⟨(fun h0 => by rw [hr] at h0; cases h0), fun j hj => by rw [hr] at hj; simp only [List.mem_singleton] at hj; subst hj; exact h⟩

theorem ws_sound (hs : Region.noSelect ops = true) (hQ : PanOK Q) : ∀ (S : World → Prop) (l : OT) (e : Env) (w : World), WS0 P ops Q n S l e w → ∀ (listed : Array Bool), Closed .any ops listed → (listed.getD tau false = true ∨ S w) → ∀ a, Fr n a e →
    (seqOK .any ops tau l true listed = true → wpV P .any ops Q S tau l.len listed a w) ∧ (seqOK .any ops tau l false listed = true → Hd P ops Q S tau l listed a w) := by
  intro S l e w hws
  have hsel := fun (j : Nat) (o : Oper) cs b ho => Region.noSelect_spec hs j o cs b ho
  have takeIt : ∀ {S : World → Prop} {i : Nat} {o : Oper} {d : Nat} {v : Value} {m : Nat} {listed : Array Bool} {a : Act} {w : World} (S' : World → Prop), ops[i]? = some o → o.dst = some d → i ≠ tau → ((∀ w, S' w) ∨ ((∀ w, S w → S' w) ∧ listed.getD tau false = false ∧ waits .any ops tau i = true)) →
      Closed .any ops listed → (listed.getD tau false = true ∨ S w) → Region.free .any ops listed i = true → (Region.ready .any ops listed).contains i = true → Yl P ops S' o v a → wpV P .any ops Q S tau m (listed.setIfInBounds i true) (a.put (some d) v) w → wpV P .any ops Q S tau (m + 1) listed a w := by
    intro S i o d v m listed a w S' ho hd hne hS' hcl hS hf hr hy H
    refine first_ ho hsel hQ hne m listed S' ?_ hcl a w (Region.free_spec ho hf) (by simpa using hr) hy hS (by rw [hd]; exact H)
    rcases hS' with h | ⟨h, ht, hw⟩
    · exact .inl h
    · rcases waits_spec hw with h2 | h2
      · exact .inr (.inl ⟨h, ht, h2⟩)
      · exact .inr (.inr ⟨h, ht, h2⟩)
  have takeIt0 : ∀ {S : World → Prop} {i : Nat} {o : Oper} {v : Value} {m : Nat} {listed : Array Bool} {a : Act} {w : World} (S' : World → Prop), ops[i]? = some o → o.dst = none → i ≠ tau → ((∀ w, S' w) ∨ ((∀ w, S w → S' w) ∧ listed.getD tau false = false ∧ waits .any ops tau i = true)) →
      Closed .any ops listed → (listed.getD tau false = true ∨ S w) → Region.free .any ops listed i = true → (Region.ready .any ops listed).contains i = true → Yl P ops S' o v a → wpV P .any ops Q S tau m (listed.setIfInBounds i true) a w → wpV P .any ops Q S tau (m + 1) listed a w := by
    intro S i o v m listed a w S' ho hd hne hS' hcl hS hf hr hy H
    refine first_ ho hsel hQ hne m listed S' ?_ hcl a w (Region.free_spec ho hf) (by simpa using hr) hy hS (by rw [hd]; exact H)
    rcases hS' with h | ⟨h, ht, hw⟩
    · exact .inl h
    · rcases waits_spec hw with h2 | h2
      · exact .inr (.inl ⟨h, ht, h2⟩)
      · exact .inr (.inr ⟨h, ht, h2⟩)
  have after : ∀ {S : World → Prop} {i : Nat} {listed : Array Bool} {w : World}, i ≠ tau → (listed.getD tau false = true ∨ S w) → ((listed.setIfInBounds i true).getD tau false = true ∨ S w) := fun {S i listed w} hne h => h.imp (fun h => by rw [getD_set_ne false hne]; exact h) id
  have one : ∀ {S : World → Prop} {i : Nat} {listed : Array Bool} {w : World}, (listed.getD tau false = true ∨ S w) → ((listed.setIfInBounds i true).getD tau false = true ∨ S w) := fun {S i listed w} h => h.imp (fun h => getD_set_true h) id
  -- one step that has an effect, or is left out
  have step : ∀ {S : World → Prop} {i p : Nat} {r : OT} {listed : Array Bool} {a : Act} {w : World}, 2 ≤ p → (i ∈ Region.ready .any ops listed → wpOp P ops Q i (fun a' w' => ((listed.setIfInBounds i true).getD tau false = true ∨ S w') ∧ wpV P .any ops Q S tau r.len (listed.setIfInBounds i true) a' w') a w) →
      (seqOK .any ops tau (.st i p r) true listed = true → wpV P .any ops Q S tau (OT.len (.st i p r)) listed a w) ∧ (seqOK .any ops tau (.st i p r) false listed = true → Hd P ops Q S tau (.st i p r) listed a w) := by
    intro S i p r listed a w hp h
    refine ⟨fun hok => ?_, fun _ j hj hr => ?_⟩
    · have hr : Region.ready .any ops listed = [i] := by
        match p, hp, hok with
        | 2, _, hok => simp only [seqOK, Bool.and_eq_true, Bool.not_true, Bool.false_or, beq_iff_eq] at hok; exact hok.1.1
        | p + 3, _, hok => simp only [seqOK, Bool.and_eq_true, Bool.not_true, Bool.false_or, beq_iff_eq] at hok; exact hok.1.1
      exact alone hr (h (by rw [hr]; simp))
    · simp only [OT.heads, List.mem_singleton] at hj
      subst hj; exact h hr
  have rest : ∀ {i p : Nat} {r : OT} {solo : Bool} {listed : Array Bool}, seqOK .any ops tau (.st i p r) solo listed = true → seqOK .any ops tau r true (listed.setIfInBounds i true) = true := by
    intro i p r solo listed h
    simp only [seqOK, Bool.and_eq_true] at h
    exact h.2
  induction hws with
  | nil h =>
    intro listed hcl hS a F
    refine ⟨fun hok => ?_, fun hok => ?_⟩
    · simp only [seqOK, Bool.true_and, List.isEmpty_iff] at hok
      exact ⟨hok, h a F⟩
    · simp [seqOK] at hok
  | @pure S i o d v r e w ho hg hd hlt hp k ih =>
    intro listed hcl hS a F
    refine ⟨fun hok => ?_, fun hok => by simp [seqOK] at hok⟩
    have hr := rest hok
    simp only [seqOK, Bool.and_eq_true, bne_iff_ne, Bool.true_and] at hok
    have hri : i ∈ Region.ready .any ops listed := by simpa using hok.1.1.1
    exact takeIt (fun _ => True) ho hd hok.1.2 (.inl fun _ => trivial) hcl hS hok.1.1.2 hok.1.1.1 (.inl ⟨hg a F, fun w hw => hp a F w hw⟩) ((ih _ (hcl.step hri) (one hS) _ (F.put hlt v)).1 hr)
  | @held S i o d v r e w ho hg hd hlt hp k ih =>
    intro listed hcl hS a F
    refine ⟨fun hok => ?_, fun hok => by simp [seqOK] at hok⟩
    have hr := rest hok
    simp only [seqOK, Bool.and_eq_true, bne_iff_ne, Bool.not_eq_true', Bool.true_and] at hok
    have hri : i ∈ Region.ready .any ops listed := by simpa using hok.1.1.1.1.1
    exact takeIt S ho hd hok.1.1.1.2 (.inr ⟨fun _ h => h, hok.1.1.2, hok.1.2⟩) hcl hS hok.1.1.1.1.2 hok.1.1.1.1.1 (.inl ⟨hg a F, fun w hw => hp a F w hw⟩) ((ih _ (hcl.step hri) (one hS) _ (F.put hlt v)).1 hr)
  | @skip S i o d r b e w ho hg hd hlt k ih =>
    intro listed hcl hS a F
    have hy : Yl P ops (fun _ => True) o undef a := .inr ⟨hg a F, rfl⟩
    match b with
    | 0 =>
      refine ⟨fun hok => ?_, fun hok => by simp [seqOK] at hok⟩
      have hr := rest hok
      simp only [seqOK, Bool.and_eq_true, bne_iff_ne, Bool.true_and] at hok
      have hk := (ih _ (hcl.step (j := i) (by first | simpa using hok.1.1.1 | simpa using hok.1.1.1.1.1)) (one (i := i) hS) _ (F.put hlt undef)).1 hr
      exact takeIt (fun _ => True) ho hd hok.1.2 (.inl fun _ => trivial) hcl hS hok.1.1.2 hok.1.1.1 hy hk
    | 1 =>
      refine ⟨fun hok => ?_, fun hok => by simp [seqOK] at hok⟩
      have hr := rest hok
      simp only [seqOK, Bool.and_eq_true, bne_iff_ne, Bool.true_and] at hok
      have hk := (ih _ (hcl.step (j := i) (by first | simpa using hok.1.1.1 | simpa using hok.1.1.1.1.1)) (one (i := i) hS) _ (F.put hlt undef)).1 hr
      exact takeIt (fun _ => True) ho hd hok.1.1.1.2 (.inl fun _ => trivial) hcl hS hok.1.1.1.1.2 hok.1.1.1.1.1 hy hk
    | b + 2 =>
      have hh : ∀ solo, seqOK .any ops tau (.st i (b + 2) r) solo listed = true → i ∈ Region.ready .any ops listed → wpOp P ops Q i (fun a' w' => ((listed.setIfInBounds i true).getD tau false = true ∨ S w') ∧ wpV P .any ops Q S tau r.len (listed.setIfInBounds i true) a' w') a w := fun solo hok hri => by
        have hk := (ih _ (hcl.step hri) (one (i := i) hS) _ (F.put hlt undef)).1 (rest hok)
        exact hy.op ho trivial ⟨one hS, by rw [hd]; exact hk⟩
      exact ⟨fun hok => (step (by omega) (hh true hok)).1 hok, fun hok => (step (by omega) (hh false hok)).2 hok⟩
  | @skip0 S i o r b e w ho hg hd k ih =>
    intro listed hcl hS a F
    have hy : Yl P ops (fun _ => True) o undef a := .inr ⟨hg a F, rfl⟩
    match b with
    | 0 =>
      refine ⟨fun hok => ?_, fun hok => by simp [seqOK] at hok⟩
      have hr := rest hok
      simp only [seqOK, Bool.and_eq_true, bne_iff_ne, Bool.true_and] at hok
      have hk := (ih _ (hcl.step (j := i) (by first | simpa using hok.1.1.1 | simpa using hok.1.1.1.1.1)) (one (i := i) hS) _ F).1 hr
      exact takeIt0 (fun _ => True) ho hd hok.1.2 (.inl fun _ => trivial) hcl hS hok.1.1.2 hok.1.1.1 hy hk
    | 1 =>
      refine ⟨fun hok => ?_, fun hok => by simp [seqOK] at hok⟩
      have hr := rest hok
      simp only [seqOK, Bool.and_eq_true, bne_iff_ne, Bool.true_and] at hok
      have hk := (ih _ (hcl.step (j := i) (by first | simpa using hok.1.1.1 | simpa using hok.1.1.1.1.1)) (one (i := i) hS) _ F).1 hr
      exact takeIt0 (fun _ => True) ho hd hok.1.1.1.2 (.inl fun _ => trivial) hcl hS hok.1.1.1.1.2 hok.1.1.1.1.1 hy hk
    | b + 2 =>
      have hh : ∀ solo, seqOK .any ops tau (.st i (b + 2) r) solo listed = true → i ∈ Region.ready .any ops listed → wpOp P ops Q i (fun a' w' => ((listed.setIfInBounds i true).getD tau false = true ∨ S w') ∧ wpV P .any ops Q S tau r.len (listed.setIfInBounds i true) a' w') a w := fun solo hok hri => by
        have hk := (ih _ (hcl.step hri) (one (i := i) hS) _ F).1 (rest hok)
        exact hy.op ho trivial ⟨one hS, by rw [hd]; exact hk⟩
      exact ⟨fun hok => (step (by omega) (hh true hok)).1 hok, fun hok => (step (by omega) (hh false hok)).2 hok⟩
  | @eff S i o r e w K ho hg h hk k ih =>
    intro listed hcl hS a F
    have hh : ∀ solo, seqOK .any ops tau (.st i 2 r) solo listed = true → i ∈ Region.ready .any ops listed → wpOp P ops Q i (fun a' w' => ((listed.setIfInBounds i true).getD tau false = true ∨ S w') ∧ wpV P .any ops Q S tau r.len (listed.setIfInBounds i true) a' w') a w := fun solo hok hri => by
      unfold wpOp
      simp only [ho, hg a F, if_true]
      rcases h a F with h | h
      · exact .inl (Oper.wp_mono (fun a' w' ⟨e', F', hK⟩ => ⟨.inr (hk e' w' hK), (ih e' w' hK _ (hcl.step hri) (.inr (hk e' w' hK)) a' F').1 (rest hok)⟩) h)
      · exact .inr h
    exact ⟨fun hok => (step (by omega) (hh true hok)).1 hok, fun hok => (step (by omega) (hh false hok)).2 hok⟩
  | @last S i o r e w K ho hg h k ih =>
    intro listed hcl hS a F
    have hh : ∀ solo, seqOK .any ops tau (.st i 3 r) solo listed = true → i ∈ Region.ready .any ops listed → wpOp P ops Q i (fun a' w' => ((listed.setIfInBounds i true).getD tau false = true ∨ S w') ∧ wpV P .any ops Q S tau r.len (listed.setIfInBounds i true) a' w') a w := fun solo hok hri => by
      have ht : (listed.setIfInBounds i true).getD tau false = true := by simp only [seqOK, Bool.and_eq_true] at hok; exact hok.1.2
      unfold wpOp
      simp only [ho, hg a F, if_true]
      rcases h a F with h | h
      · exact .inl (Oper.wp_mono (fun a' w' ⟨e', F', hK⟩ => ⟨.inl ht, (ih e' w' hK _ (hcl.step hri) (.inl ht) a' F').1 (rest hok)⟩) h)
      · exact .inr h
    exact ⟨fun hok => (step (by omega) (hh true hok)).1 hok, fun hok => (step (by omega) (hh false hok)).2 hok⟩
  | @narrow S S' l e w hw hs k ih =>
    intro listed hcl hS a F
    have h := ih listed hcl (.inr hw) a F
    exact ⟨fun hok => wpV_mono hs _ _ _ _ (h.1 hok), fun hok i hi hr => wpOp_mono (fun a' w' h' => ⟨h'.1.imp id (hs w'), wpV_mono hs _ _ _ _ h'.2⟩) (h.2 hok i hi hr)⟩
  | @alt S x y e w h k ih1 ih2 =>
    intro listed hcl hS a F
    have hh : ∀ solo, seqOK .any ops tau (.alt x y) solo listed = true → Hd P ops Q S tau (.alt x y) listed a w := fun solo hok => by
      simp only [seqOK, Bool.and_eq_true, beq_iff_eq] at hok
      intro i hi hr
      simp only [OT.heads, List.mem_append] at hi
      rcases hi with hi | hi
      · exact (ih1 listed hcl hS a F).2 hok.1.2 i hi hr
      · have := (ih2 listed hcl hS a F).2 hok.2 i hi hr
        simp only [OT.len]; rw [hok.1.1.2]; exact this
    refine ⟨fun hok => ?_, hh false⟩
    have h2 := hh true hok
    simp only [seqOK, Bool.and_eq_true, Bool.not_true, Bool.false_or, beq_iff_eq, Bool.not_eq_true', List.all_eq_true] at hok
    have hne := hok.1.1.1.2
    have hpos : ∃ m, OT.len (.alt x y) = m + 1 := by
      have hx : ∀ t : OT, seqOK .any ops tau t false listed = true → ∃ m, t.len = m + 1 := by
        intro t
        induction t with
        | nil => intro h; simp [seqOK] at h
        | st i p r _ => intro _; exact ⟨_, rfl⟩
        | alt x y ihx _ => intro h; simp only [seqOK, Bool.and_eq_true] at h; exact ihx h.1.2
      exact hx x hok.1.2
    obtain ⟨m, hm⟩ := hpos
    rw [hm]
    refine ⟨fun h0 => by rw [h0] at hne; simp at hne, fun j hj => ?_⟩
    have h3 := h2 j (by have := hok.1.1.1.1 j hj; simp only [OT.heads]; simpa using this) hj
    rw [hm] at h3; exact h3

/-- A region that draws its order. -/
theorem wc_draw {id : Nat} (l : OT) (tau : Nat) (hm : P.follows .mixedOrders = true) (hs : Region.noSelect ops = true) (hc : (seqOK .any ops tau l true (Array.replicate ops.size false) && Nat.beq l.len ops.size) = true) (hQ : PanOK Q)
    (S : World → Prop) (hS : S w.drew) (h : WS P ops Q S n l e w.drew) : WC P Q n (.region id ops true) e w := fun a F => by
  simp only [Bool.and_eq_true] at hc
  refine wp_region_any hm (wpAny_of_wpV (S := S) (tau := tau) _ _ _ _ ?_)
  have hl : l.len = ops.size := Nat.eq_of_beq_eq_true hc.2
  rw [← hl]
  exact hl ▸ (ws_sound hs hQ S l e w.drew h _ (closed_none _) (.inr hS) a F).1 hc.1

theorem ws_narrow {S' : World → Prop} {l : OT} (hw : S' w) (hs : ∀ x, S' x → S x) (k : WS P ops Q S' n l e w) : WS P ops Q S n l e w := .narrow hw hs k
theorem ws_alt {x y : OT} (h : WS P ops Q S n x e w) (k : WS P ops Q S n y e w) : WS P ops Q S n (.alt x y) e w := .alt h k
theorem ws_n (h : WQ Q n .normal e w) : WS P ops Q S n .nil e w := .nil h
theorem ws_p {i : Nat} {o : Oper} {d : Nat} {v : Value} {r : OT} (ho : ops[i]? = some o) (hg : o.guard = none) (hd : o.dst = some d) (hlt : Nat.blt d n = true) (hp : Pu P (fun _ => True) n o e v) (k : WS P ops Q S n r ((d, v) :: e) w) : WS P ops Q S n (.st i 0 r) e w :=
  .pure ho (fun a F => by simp [Region.wanted, hg]) hd hlt hp k
theorem ws_h {i : Nat} {o : Oper} {d : Nat} {v : Value} {r : OT} (ho : ops[i]? = some o) (hg : o.guard = none) (hd : o.dst = some d) (hlt : Nat.blt d n = true) (hp : Pu P S n o e v) (k : WS P ops Q S n r ((d, v) :: e) w) : WS P ops Q S n (.st i 1 r) e w :=
  .held ho (fun a F => by simp [Region.wanted, hg]) hd hlt hp k
theorem ws_e {i : Nat} {o : Oper} {r : OT} (ho : ops[i]? = some o) (hg : o.guard = none) (h : OpE P n o e w Q (fun e' w' => S w' ∧ WS P ops Q S n r e' w')) : WS P ops Q S n (.st i 2 r) e w :=
  .eff _ ho (fun a F => by simp [Region.wanted, hg]) h (fun _ _ h => h.1) (fun _ _ h => h.2)
theorem ws_l {i : Nat} {o : Oper} {r : OT} (ho : ops[i]? = some o) (hg : o.guard = none) (h : OpE P n o e w Q (fun e' w' => WS P ops Q S n r e' w')) : WS P ops Q S n (.st i 3 r) e w :=
  .last _ ho (fun a F => by simp [Region.wanted, hg]) h (fun _ _ h => h)
/-- With a guard that says yes. -/
theorem ws_pg {i : Nat} {o : Oper} {d : Nat} {v : Value} {r : OT} (ho : ops[i]? = some o) (hg : ∀ a, Fr n a e → Region.wanted o (yielded ops a.tmps) = true) (hd : o.dst = some d) (hlt : Nat.blt d n = true) (hp : Pu P (fun _ => True) n o e v) (k : WS P ops Q S n r ((d, v) :: e) w) : WS P ops Q S n (.st i 0 r) e w :=
  .pure ho hg hd hlt hp k
theorem ws_hg {i : Nat} {o : Oper} {d : Nat} {v : Value} {r : OT} (ho : ops[i]? = some o) (hg : ∀ a, Fr n a e → Region.wanted o (yielded ops a.tmps) = true) (hd : o.dst = some d) (hlt : Nat.blt d n = true) (hp : Pu P S n o e v) (k : WS P ops Q S n r ((d, v) :: e) w) : WS P ops Q S n (.st i 1 r) e w :=
  .held ho hg hd hlt hp k
theorem ws_eg {i : Nat} {o : Oper} {r : OT} (ho : ops[i]? = some o) (hg : ∀ a, Fr n a e → Region.wanted o (yielded ops a.tmps) = true) (h : OpE P n o e w Q (fun e' w' => S w' ∧ WS P ops Q S n r e' w')) : WS P ops Q S n (.st i 2 r) e w :=
  .eff _ ho hg h (fun _ _ h => h.1) (fun _ _ h => h.2)
theorem ws_s {i : Nat} {o : Oper} {d : Nat} {r : OT} {b : Nat} (ho : ops[i]? = some o) (hg : ∀ a, Fr n a e → Region.wanted o (yielded ops a.tmps) = false) (hd : o.dst = some d) (hlt : Nat.blt d n = true) (k : WS P ops Q S n r ((d, undef) :: e) w) : WS P ops Q S n (.st i b r) e w := .skip ho hg hd hlt k
/-- Whether a guarded operation is carried out: what is known of the guard's slot. -/
theorem gd_ {o oj : Oper} {j d : Nat} {want r : Bool} {v : Value} (hg : o.guard = some (j, want)) (hj : ops[j]? = some oj) (hd : oj.dst = some d) (hlt : Nat.blt d n = true) (hl : look d e = some v) (hr : (match v with | .bool b => b == want | _ => false) = r) : ∀ a, Fr n a e → Region.wanted o (yielded ops a.tmps) = r := fun a F => by
  have hv := F.get d v hl
  have hdn : d < a.tmps.size := by rw [F.size]; simpa [Nat.blt_eq] using hlt
  have hat : a.tmps[d]? = some v := by
    simp [Array.getD_eq_getD_getElem?, Array.getElem?_eq_getElem hdn] at hv ⊢
    exact hv
  subst hr
  unfold Region.wanted
  simp only [hg, yielded, hj, Option.bind_some, hd, hat]
  cases v <;> simp
end
end Go.Gx
