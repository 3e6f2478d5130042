/-
  Own text: a region that draws its order, whose operations only lay new blocks: whatever the order, behind it each slot holds a value of which its operation's word is true.
-/
import Derived.Test.YtkfkdakghjlenaaDoorGxAgg
set_option linter.unusedSimpArgs false
set_option linter.unusedVariables false
namespace Go.Gx
open Go.RowKit
section
variable {P : Program} {ops : Array Oper} {Q : Exit → Act → World → Prop} {n : Nat} {e : Env} {w : World}
/-- An operation turns its own slot alone. -/
theorem wp_put {o : Oper} {a : Act} {K : Act → World → Prop} (h : o.wp P a w K Q) : o.wp P a w (fun a' w' => K a' w' ∧ ((∃ v, a' = a.put o.dst v) ∨ a'.defers ≠ [])) Q := by
  unfold Oper.wp at h ⊢
  revert h
  generalize (execOp a.eval o).run P w = r
  intro h
  cases r with
  | halt x w' => cases x <;> simp only [Oper.upon] at h ⊢ <;> exact h
  | ok nx w' =>
    cases nx <;> simp only [Oper.upon] at h ⊢
    · exact ⟨h, .inl ⟨_, rfl⟩⟩
    · exact ⟨h, .inl ⟨_, rfl⟩⟩
    · refine Calls.mono h fun ed w2 hed => ?_
      cases ed with
      | returned u => exact ⟨hed, .inl ⟨_, rfl⟩⟩
      | panicked c => exact hed
      | outgrown => exact hed
    · refine ⟨h, .inr ?_⟩
      cases o.dst <;> simp [Act.put]
    · exact Rows.mono h fun u w2 hed => ⟨hed, .inl ⟨_, rfl⟩⟩
/-- How many of the first N are left. -/
def left_ (p : Nat → Bool) : Nat → Nat
  | 0 => 0
  | N + 1 => left_ p N + (if p N then 1 else 0)
theorem left_le {p q : Nat → Bool} (h : ∀ i, q i = true → p i = true) : ∀ N, left_ q N ≤ left_ p N
  | 0 => Nat.le_refl _
  | N + 1 => by
    have ih := left_le h N
    simp only [left_]
    by_cases hq : q N = true
    · rw [if_pos hq, if_pos (h N hq)]; omega
    · rw [if_neg hq]; split <;> omega
theorem left_lt {p q : Nat → Bool} (h : ∀ i, q i = true → p i = true) {j : Nat} (hp : p j = true) (hq : ¬ q j = true) : ∀ N, j < N → left_ q N < left_ p N
  | 0, hj => by omega
  | N + 1, hj => by
    simp only [left_]
    by_cases e : j = N
    · subst e
      have := left_le h j
      rw [if_pos hp, if_neg hq]; omega
    · have ih := left_lt h hp hq N (by omega)
      by_cases hq2 : q N = true
      · rw [if_pos hq2, if_pos (h N hq2)]; omega
      · rw [if_neg hq2]; split <;> omega
theorem left_none {p : Nat → Bool} : ∀ {N : Nat}, left_ p N = 0 → ∀ i, i < N → p i = false
  | 0, _, i, hi => by omega
  | N + 1, h, i, hi => by
    simp only [left_] at h
    by_cases e : i = N
    · subst e
      cases hp : p i with
      | false => rfl
      | true => rw [hp] at h; simp at h
    · exact left_none (N := N) (by omega) i (by omega)
/-- With what the operations of the list have yielded known. -/
def AnyDeps (Φ : Nat → Value → World → Prop) (dst : Nat → Nat) (w1 : World) : List Nat → Env → (Env → Prop) → Prop
  | [], env, K => K env
  | j :: r, env, K => ∀ v, Φ j v w1 → AnyDeps Φ dst w1 r ((dst j, v) :: env) K
def AnyOp (P : Program) (ops : Array Oper) (Q : Exit → Act → World → Prop) (n : Nat) (e : Env) (w : World) (Φ : Nat → Value → World → Prop) (dst : Nat → Nat) (deps : Nat → List Nat) (i : Nat) (o : Oper) : Prop :=
  ∀ w1, Ch No w w1 → AnyDeps Φ dst w1 (deps i) e (fun env => (∀ a, Fr n a env → Region.wanted o (yielded ops a.tmps) = true) ∧ OpE P n o env w1 Q (fun e' w2 => Ch No w1 w2 ∧ ∃ v, look (dst i) e' = some v ∧ Φ i v w2))
def AllAny (P : Program) (ops : Array Oper) (Q : Exit → Act → World → Prop) (n : Nat) (e : Env) (w : World) (Φ : Nat → Value → World → Prop) (dst : Nat → Nat) (deps : Nat → List Nat) : Nat → List Oper → Prop
  | _, [] => True
  | i, o :: r => AnyOp P ops Q n e w Φ dst deps i o ∧ AllAny P ops Q n e w Φ dst deps (i + 1) r
theorem AllAny.at_ {Φ : Nat → Value → World → Prop} {dst : Nat → Nat} {deps : Nat → List Nat} : ∀ {l : List Oper} {k : Nat}, AllAny P ops Q n e w Φ dst deps k l → ∀ {i : Nat} {o : Oper}, l[i]? = some o → AnyOp P ops Q n e w Φ dst deps (k + i) o
  | [], _, _, i, o, h => by simp at h
  | x :: r, k, hA, 0, o, h => by simp at h; subst h; exact hA.1
  | x :: r, k, hA, i + 1, o, h => by
    have := AllAny.at_ hA.2 (i := i) (o := o) (by simpa using h)
    rwa [show k + 1 + i = k + (i + 1) by omega] at this
theorem AnyDeps.use {Φ : Nat → Value → World → Prop} {dst : Nat → Nat} {w1 : World} {a : Act} {K : Env → Prop} : ∀ {js : List Nat} {env : Env}, AnyDeps Φ dst w1 js env K → Fr n a env → (∀ j ∈ js, Φ j (a.tmps.getD (dst j) undef) w1) → ∃ env', K env' ∧ Fr n a env'
  | [], env, h, F, _ => ⟨env, h, F⟩
  | j :: r, env, h, F, hj => by
    refine AnyDeps.use (js := r) (h _ (hj j (by simp))) ⟨F.size, F.defs, fun t v hv => ?_⟩ (fun i hi => hj i (by simp [hi]))
    rw [look_cons] at hv
    by_cases e : dst j = t
    · rw [if_pos e] at hv; rw [← e]; exact Option.some.inj hv
    · rw [if_neg e] at hv; exact F.get t v hv
structure AnyInv (ops : Array Oper) (n : Nat) (e : Env) (w : World) (Φ : Nat → Value → World → Prop) (dst : Nat → Nat) (listed : Array Bool) (a : Act) (w1 : World) : Prop where
  fr : Fr n a e
  ch : Ch No w w1
  done : ∀ i, i < ops.size → listed.getD i false = true → Φ i (a.tmps.getD (dst i) undef) w1
theorem getD_set_self {listed : Array Bool} {i : Nat} (h : (listed.setIfInBounds i true).getD i false = false) : listed.size ≤ i := by
  rcases Nat.lt_or_ge i listed.size with hlt | hge
  · simp [hlt] at h
  · exact hge
theorem getD_set_true_self {listed : Array Bool} {i : Nat} (hi : i < listed.size) : (listed.setIfInBounds i true).getD i false = true := by
  rw [Array.getD_eq_getD_getElem?]
  simp [hi]
theorem getD_tf {listed : Array Bool} {i : Nat} (h : listed.getD i true = false) : listed.getD i false = false := by
  rw [Array.getD_eq_getD_getElem?] at h ⊢
  cases h2 : listed[i]? with
  | none => rfl
  | some b => rw [h2] at h; exact h
theorem getD_ft {listed : Array Bool} {i : Nat} (hi : i < listed.size) (h : listed.getD i false = false) : listed.getD i true = false := by
  rw [Array.getD_eq_getD_getElem?, Array.getElem?_eq_getElem hi] at h ⊢
  exact h
theorem wpAny_of_any {Φ : Nat → Value → World → Prop} {dst : Nat → Nat} {deps : Nat → List Nat}
    (hd : ∀ i o, ops[i]? = some o → o.dst = some (dst i) ∧ dst i < n ∧ look (dst i) e = none) (hnd : ∀ i j, i < ops.size → j < ops.size → dst i = dst j → i = j)
    (hedge : ∀ i o, ops[i]? = some o → ∀ x ∈ o.after, Region.binds .any x = true → x.on < i)
    (hdep : ∀ i, i < ops.size → ∀ j ∈ deps i, j < ops.size ∧ waitsN .any ops 8 i j = true)
    (hst : ∀ i v w1 w2, Ch No w1 w2 → Φ i v w1 → Φ i v w2) (hop : ∀ i o, ops[i]? = some o → AnyOp P ops Q n e w Φ dst deps i o)
    (hk : ∀ a w1, Fr n a e → Ch No w w1 → (∀ i, i < ops.size → Φ i (a.tmps.getD (dst i) undef) w1) → Q .normal a w1) :
    ∀ (k : Nat) (listed : Array Bool) (a : Act) (w1 : World), listed.size = ops.size → left_ (fun i => !listed.getD i false) ops.size ≤ k → Closed .any ops listed → AnyInv ops n e w Φ dst listed a w1 → wpAny P .any ops Q k listed a w1 := by
  have fin : ∀ (listed : Array Bool) (a : Act) (w1 : World), listed.size = ops.size → Region.ready .any ops listed = [] → AnyInv ops n e w Φ dst listed a w1 → Q .normal a w1 := by
    intro listed a w1 hsz hr hI
    refine hk a w1 hI.fr hI.ch fun i hi => hI.done i hi ?_
    have hall : ∀ m i, i < m → i < ops.size → listed.getD i false = true := by
      intro m
      induction m with
      | zero => intro i h; omega
      | succ m ih =>
        intro i hm hi
        by_cases e : i < m
        · exact ih i e hi
        · obtain rfl : i = m := by omega
          cases hl : listed.getD i false with
          | true => rfl
          | false =>
            exfalso
            have : i ∈ Region.ready .any ops listed := mem_ready.2 ⟨getD_ft (by omega) hl, ops[i], by simp [hi], fun x hx hb => ih x.on (hedge i _ (by simp [hi]) x hx hb) (by have := hedge i _ (by simp [hi]) x hx hb; omega)⟩
            rw [hr] at this; cases this
    exact hall (i + 1) i (by omega) hi
  intro k
  induction k with
  | zero =>
    intro listed a w1 hsz hl hcl hI
    have h0 := left_none (Nat.le_zero.1 hl)
    have hr : Region.ready .any ops listed = [] := by
      refine List.eq_nil_iff_forall_not_mem.2 fun i hi => ?_
      obtain ⟨h1, o, ho, _⟩ := mem_ready.1 hi
      have hlt : i < ops.size := by
        rcases Nat.lt_or_ge i ops.size with h | h
        · exact h
        · rw [Array.getElem?_eq_none h] at ho; cases ho
      have := h0 i hlt
      rw [getD_tf h1] at this; cases this
    exact ⟨hr, fin listed a w1 hsz hr hI⟩
  | succ k ih =>
    intro listed a w1 hsz hl hcl hI
    refine ⟨fun hr => fin listed a w1 hsz hr hI, fun i hi => ?_⟩
    obtain ⟨h1', o, ho, hall⟩ := mem_ready.1 hi
    have h1 := getD_tf h1'
    have hlt : i < ops.size := by
      rcases Nat.lt_or_ge i ops.size with h | h
      · exact h
      · rw [Array.getElem?_eq_none h] at ho; cases ho
    obtain ⟨hd1, hd2, hd3⟩ := hd i o ho
    have hdeps : ∀ j ∈ deps i, Φ j (a.tmps.getD (dst j) undef) w1 := fun j hj => by
      obtain ⟨hjl, hw⟩ := hdep i hlt j hj
      exact hI.done j hjl (waitsN_spec hcl 8 i hw (fun ot hot x hx hb => by rw [ho] at hot; cases hot; exact hall x hx hb))
    obtain ⟨env, ⟨hwant, hE⟩, hF⟩ := AnyDeps.use (hop i o ho w1 hI.ch) hI.fr hdeps
    unfold wpOp
    simp only [ho, hwant a hF, if_true]
    have next : ∀ a' w', ((∃ e', Fr n a' e' ∧ Ch No w1 w' ∧ ∃ v, look (dst i) e' = some v ∧ Φ i v w') ∧ ((∃ v, a' = a.put o.dst v) ∨ a'.defers ≠ [])) → wpAny P .any ops Q k (listed.setIfInBounds i true) a' w' := by
      rintro a' w' ⟨⟨e', F', hc, v, hv, hΦ⟩, hp⟩
      rcases hp with ⟨u, rfl⟩ | hp
      · have hu : a.put o.dst u = a.put (some (dst i)) u := by rw [hd1]
        have hslot : (a.put o.dst u).tmps.getD (dst i) undef = v := F'.get _ _ hv
        have hoth : ∀ t, t ≠ dst i → (a.put o.dst u).tmps.getD t undef = a.tmps.getD t undef := fun t ht => by
          rw [hu]; simp [Act.put, Array.getElem?_setIfInBounds_ne (Ne.symm ht)]
        have hlle : left_ (fun j => !(listed.setIfInBounds i true).getD j false) ops.size < left_ (fun j => !listed.getD j false) ops.size := by
          refine left_lt (fun j hj => ?_) (j := i) (by rw [h1]; rfl) (by rw [getD_set_true_self (by omega)]; decide) ops.size hlt
          by_cases e : j = i
          · subst e; rw [h1]; rfl
          · rw [getD_set_ne false (Ne.symm e)] at hj; exact hj
        refine ih _ _ _ (by simp [hsz]) (by omega) (hcl.step hi) ⟨⟨F'.size, F'.defs, fun t x hx => ?_⟩, hI.ch.tr hc, fun j hj hlj => ?_⟩
        · have hne : t ≠ dst i := fun h => by rw [h, hd3] at hx; cases hx
          rw [hoth t hne]; exact hI.fr.get t x hx
        · by_cases e : j = i
          · subst e; rw [hslot]; exact hΦ
          · rw [getD_set_ne false (Ne.symm e)] at hlj
            rw [hoth (dst j) (fun h => e (hnd j i hj hlt h))]
            exact hst j _ _ _ hc (hI.done j hj hlj)
      · exact absurd F'.defs hp
    rcases hE a hF with h | h
    · exact .inl (Oper.wp_mono (fun a' w' hx => next a' w' hx) (wp_put h))
    · exact .inr h
/-- A region that draws its order: outs are the operations whose words are wanted behind it. -/
theorem wc_any {id : Nat} {l : List Oper} (dsts : List Nat) (deps : Nat → List Nat) (Φ : Nat → Value → World → Prop) (outs : List Nat) (hm : P.follows .mixedOrders = true)
    (hd : l.map (·.dst) = dsts.map some) (hn : dsts.all (fun d => Nat.blt d n) = true) (hlook : dsts.all (fun d => (look d e).isNone) = true)
    (hc : ((List.range l.length).all (fun i => ((List.range l.length).all fun j => !(Nat.beq (dsts.getD i 0) (dsts.getD j 0)) || Nat.beq i j) && ((l.toArray[i]?).all fun o => o.after.all fun x => !(Region.binds .any x) || Nat.blt x.on i) && (deps i).all (fun j => Nat.blt j l.length && waitsN .any l.toArray 8 i j)) && outs.all (fun j => Nat.blt j l.length)) = true)
    (hst : ∀ i v w1 w2, Ch No w1 w2 → Φ i v w1 → Φ i v w2) (hop : AllAny P l.toArray Q n e w Φ (fun i => dsts.getD i 0) deps 0 l)
    (hk : ∀ w', Ch No w w' → AnyDeps Φ (fun i => dsts.getD i 0) w' outs e (fun env => WQ Q n .normal env w')) : WC P Q n (.region id l.toArray true) e w := fun a F => by
  simp only [Bool.and_eq_true, List.all_eq_true, List.mem_range, Bool.or_eq_true, Bool.not_eq_true', Nat.blt_eq] at hc
  obtain ⟨hc1, hc2⟩ := hc
  have hsz : l.toArray.size = l.length := by simp
  have hlen : dsts.length = l.length := by have := congrArg List.length hd; simpa using this.symm
  have hdst : ∀ (i : Nat) (o : Oper), l.toArray[i]? = some o → o.dst = some (dsts.getD i 0) ∧ dsts.getD i 0 ∈ dsts := fun i o ho => by
    have h1 : l[i]? = some o := by simpa using ho
    have h2 : (l.map (·.dst))[i]? = some o.dst := by rw [List.getElem?_map, h1]; rfl
    rw [hd, List.getElem?_map] at h2
    obtain ⟨d, h3, h4⟩ := Option.map_eq_some_iff.1 h2
    have h5 : dsts.getD i 0 = d := by simp [List.getD, h3]
    rw [h5]; exact ⟨h4.symm, List.mem_of_getElem? h3⟩
  refine wp_region_any hm (wpAny_of_any (Φ := Φ) (dst := fun i => dsts.getD i 0) (deps := deps) (e := e) (w := w) (n := n) (fun i o ho => ?_) (fun i j hi hj h => ?_) (fun i o ho x hx hb => ?_) (fun i hi j hj => ?_) hst (fun i o ho => ?_) (fun a1 w1 F1 hw1 hΦ => ?_) _ _ _ _ (by simp) ?_ (closed_none _) ⟨F, Ch.drew w, fun i hi hl => ?_⟩)
  · obtain ⟨h1, h2⟩ := hdst i o ho
    refine ⟨h1, ?_, ?_⟩
    · have := List.all_eq_true.1 hn _ h2; simpa [Nat.blt_eq] using this
    · have := List.all_eq_true.1 hlook _ h2; simpa using this
  · rcases (hc1 i (by omega)).1.1 j (by omega) with h' | h'
    · exfalso
      have h2 : dsts.getD i 0 = dsts.getD j 0 := h
      rw [h2, Nat.beq_refl] at h'
      cases h'
    · exact Nat.eq_of_beq_eq_true h'
  · have hi : i < l.length := by
      rcases Nat.lt_or_ge i l.length with h | h
      · exact h
      · rw [Array.getElem?_eq_none (by simpa using h)] at ho; cases ho
    have h1 := (hc1 i hi).1.2
    rw [ho] at h1
    simp only [Option.all_some] at h1
    have h2 := Array.all_eq_true'.1 h1 x hx
    simp only [Bool.or_eq_true, Bool.not_eq_true', Nat.blt_eq] at h2
    rcases h2 with h2 | h2
    · rw [hb] at h2; cases h2
    · exact h2
  · have := (hc1 i (by omega)).2 j hj
    exact ⟨by omega, this.2⟩
  · have h1 : l[i]? = some o := by simpa using ho
    have := hop.at_ h1
    rwa [Nat.zero_add] at this
  · obtain ⟨env, h1, h2⟩ := AnyDeps.use (hk w1 hw1) F1 (fun j hj => hΦ j (by have := hc2 j hj; omega))
    exact h1 a1 h2
  · have : ∀ (p : Nat → Bool) N, left_ p N ≤ N := fun p N => by
      induction N with
      | zero => exact Nat.le_refl _
      | succ N ih => simp only [left_]; split <;> omega
    exact this _ _
  · exfalso
    rw [Array.getD_eq_getD_getElem?] at hl
    rcases Nat.lt_or_ge i (Array.replicate l.toArray.size false).size with h | h
    · rw [Array.getElem?_eq_getElem h, Array.getElem_replicate] at hl; cases hl
    · rw [Array.getElem?_eq_none h] at hl; cases hl
end
end Go.Gx
