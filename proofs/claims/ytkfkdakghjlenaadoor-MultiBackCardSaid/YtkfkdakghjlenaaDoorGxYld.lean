/-
  Own text: a region that draws the order of operations that only yield values, ahead of one call and what is done with its answer; walked inside the wide fence (the call may be one of a round).
-/
import Derived.Test.YtkfkdakghjlenaaDoorGxStop
import Derived.OrdersIn
set_option linter.unusedSimpArgs false
set_option linter.unusedVariables false
namespace Go.Gx
open Go.RowKit
section
variable {P : Program} {ops : Array Oper} {Q : Exit → Act → World → Prop} {n m : Nat} {ro : Option Nat} {e : Env} {w : World}
theorem wpAnyIn_pureY {dst : Nat → Nat} {deps : Nat → List Nat} {vals : Nat → Value} {M : Nat} {oc oa : Oper} (hsz : ops.size = M + 2) (hoc : ops[M]? = some oc) (hoa : ops[M + 1]? = some oa) (hgc : oc.guard = none) (hga : oa.guard = none)
    (hd : ∀ i o, i < M → ops[i]? = some o → o.guard = none ∧ o.dst = some (dst i) ∧ dst i < n ∧ look (dst i) e = none) (hnd : ∀ i j, i < M → j < M → dst i = dst j → i = j) (hnde : ∀ i o, i < M → ops[i]? = some o → ∀ c, o.op ≠ .defer c)
    (hedge : ∀ i o, ops[i]? = some o → ∀ x ∈ o.after, Region.binds .any x = true → x.on < i)
    (hdep : ∀ i, i < M → ∀ j ∈ deps i, j < M ∧ waitsN .any ops 8 i j = true) (hlast : ∀ j, j < M → waitsN .any ops 8 M j = true) (hlast2 : waitsN .any ops 8 (M + 1) M = true)
    (hp : ∀ i o, i < M → ops[i]? = some o → Pu P (· = w) n o ((deps i).map (fun j => (dst j, vals j)) ++ e) (vals i))
    (hk : ∀ a, Fr n a e → (∀ i, i < M → a.tmps.getD (dst i) undef = vals i) → oc.wpIn (FW ro) m P a w (fun a' w' => oa.wpIn (FW ro) m P a' w' (fun a2 w2 => Q .normal a2 w2) Q) Q) :
    ∀ (k : Nat) (listed : Array Bool) (a : Act), listed.size = ops.size → left_ (fun i => !listed.getD i false) ops.size ≤ k → Closed .any ops listed → listed.getD M false = false → listed.getD (M + 1) false = false → Fr n a e → (∀ i, i < M → listed.getD i false = true → a.tmps.getD (dst i) undef = vals i) → wpAnyIn (FW ro) m P .any ops Q k listed a w := by
  have least : ∀ (listed : Array Bool), listed.size = ops.size → ∀ N, N ≤ ops.size → (∀ i, i ∈ Region.ready .any ops listed → N ≤ i) → ∀ i, i < N → listed.getD i false = true := by
    intro listed hls N hN hr
    have hall : ∀ q i, i < q → i < N → listed.getD i false = true := by
      intro q
      induction q with
      | zero => intro i h; omega
      | succ q ih =>
        intro i hm hi
        by_cases e : i < q
        · exact ih i e hi
        · obtain rfl : i = q := by omega
          cases hl : listed.getD i false with
          | true => rfl
          | false =>
            exfalso
            have : i ∈ Region.ready .any ops listed := mem_ready.2 ⟨getD_ft (by omega) hl, ops[i], by simp [show i < ops.size by omega], fun x hx hb => ih x.on (hedge i _ (by simp [show i < ops.size by omega]) x hx hb) (by have := hedge i _ (by simp [show i < ops.size by omega]) x hx hb; omega)⟩
            have := hr i this
            omega
    exact fun i hi => hall (i + 1) i (by omega) hi
  have rdy : ∀ (listed : Array Bool) i, i ∈ Region.ready .any ops listed → i < ops.size := by
    intro listed i hi
    obtain ⟨_, o, ho, _⟩ := mem_ready.1 hi
    exact (Array.getElem?_eq_some_iff.1 ho).1
  intro k
  induction k with
  | zero =>
    intro listed a hls hl hcl hM hM1 F hI
    have := left_none (Nat.le_zero.1 hl) M (by omega)
    rw [hM] at this; cases this
  | succ k ih =>
    intro listed a hls hl hcl hM hM1 F hI
    have hne : Region.ready .any ops listed ≠ [] := fun h0 => by
      have := least listed hls ops.size (Nat.le_refl _) (fun i hi => by rw [h0] at hi; cases hi) M (by omega)
      rw [hM] at this; cases this
    refine ⟨fun hr => absurd hr hne, fun i hi => ?_⟩
    obtain ⟨h1', o, ho, hall⟩ := mem_ready.1 hi
    have h1 := getD_tf h1'
    have hlt := rdy listed i hi
    by_cases hiM : i < M
    · obtain ⟨hg, hd1, hd2, hd3⟩ := hd i o hiM ho
      have hF2 : Fr n a ((deps i).map (fun j => (dst j, vals j)) ++ e) := by
        have key : ∀ js : List Nat, (∀ j ∈ js, a.tmps.getD (dst j) undef = vals j) → Fr n a (js.map (fun j => (dst j, vals j)) ++ e) := by
          intro js
          induction js with
          | nil => intro _; exact F
          | cons j r ih2 =>
            intro hj
            have h2 := ih2 (fun x hx => hj x (by simp [hx]))
            refine ⟨F.size, F.defs, fun t v hv => ?_⟩
            rw [List.map_cons, List.cons_append, look_cons] at hv
            by_cases e : dst j = t
            · rw [if_pos e] at hv; rw [← e]; exact (hj j (by simp)).trans (Option.some.inj hv)
            · rw [if_neg e] at hv; exact h2.get t v hv
        exact key _ (fun j hj => by
          obtain ⟨hjl, hw⟩ := hdep i hiM j hj
          exact hI j hjl (waitsN_spec hcl 8 i hw (fun ot hot x hx hb => by rw [ho] at hot; cases hot; exact hall x hx hb)))
      refine wpOpIn_step ho (fun K' hK' => ?_)
      rw [if_pos (by simp [Region.wanted, hg])]
      refine in_of_wp (hnde i o hiM ho) ?_
      simp only [Oper.wp, hp i o hiM ho _ hF2 w rfl, Oper.upon, hd1]
      refine hK' _ _ ?_
      have hslot : (a.put (some (dst i)) (vals i)).tmps.getD (dst i) undef = vals i := by simp [Act.put, F.size, hd2]
      have hoth : ∀ t, t ≠ dst i → (a.put (some (dst i)) (vals i)).tmps.getD t undef = a.tmps.getD t undef := fun t ht => by
        simp [Act.put, Array.getElem?_setIfInBounds_ne (Ne.symm ht)]
      have hlle : left_ (fun j => !(listed.setIfInBounds i true).getD j false) ops.size < left_ (fun j => !listed.getD j false) ops.size := by
        refine left_lt (fun j hj => ?_) (j := i) (by rw [h1]; rfl) (by rw [getD_set_true_self (by omega)]; decide) ops.size hlt
        by_cases e : j = i
        · subst e; rw [h1]; rfl
        · rw [getD_set_ne false (Ne.symm e)] at hj; exact hj
      refine ih _ _ (by simp [hls]) (by omega) (hcl.step hi) (by rw [getD_set_ne false (by omega)]; exact hM) (by rw [getD_set_ne false (by omega)]; exact hM1) ⟨by simp [Act.put, F.size], F.defs, fun t x hx => ?_⟩ (fun j hj hlj => ?_)
      · have hne : t ≠ dst i := fun h => by rw [h, hd3] at hx; cases hx
        rw [hoth t hne]; exact F.get t x hx
      · by_cases e : j = i
        · subst e; exact hslot
        · rw [getD_set_ne false (Ne.symm e)] at hlj
          rw [hoth (dst j) (fun h => e (hnd j i hj hiM h))]
          exact hI j hj hlj
    · have hiM2 : i = M := by
        rcases Nat.eq_or_lt_of_le (Nat.le_of_not_lt hiM) with h | h
        · exact h.symm
        · exfalso
          obtain rfl : i = M + 1 := by omega
          have := waitsN_spec hcl 8 (M + 1) hlast2 (fun ot hot x hx hb => by rw [ho] at hot; cases hot; exact hall x hx hb)
          rw [hM] at this; cases this
      subst hiM2
      rw [hoc] at ho; cases ho
      have hbef : ∀ j, j < i → listed.getD j false = true := fun j hj => waitsN_spec hcl 8 i (hlast j hj) (fun ot hot x hx hb => by rw [hoc] at hot; cases hot; exact hall x hx hb)
      have hin := hk a F (fun j hj => hI j hj (hbef j hj))
      refine wpOpIn_step hoc (fun K' hK' => ?_)
      rw [if_pos (by simp [Region.wanted, hgc])]
      refine Oper.wpIn_mono (fun a2 w2 h2 => hK' _ _ ?_) hin
      have hcl2 := hcl.step hi
      have hset : ∀ j, j < i + 1 → (listed.setIfInBounds i true).getD j false = true := fun j hj => by
        by_cases e : j = i
        · subst e; exact getD_set_true_self (by omega)
        · rw [getD_set_ne false (Ne.symm e)]; exact hbef j (by omega)
      have hM2 : (listed.setIfInBounds i true).getD (i + 1) false = false := by rw [getD_set_ne false (by omega)]; exact hM1
      have hrdy2 : i + 1 ∈ Region.ready .any ops (listed.setIfInBounds i true) := mem_ready.2 ⟨getD_ft (by simp [hls]; omega) hM2, oa, hoa, fun x hx hb => hset x.on (by have := hedge (i + 1) oa hoa x hx hb; omega)⟩
      have hk1 : ∃ k', k = k' + 1 := by
        cases k with
        | zero =>
          exfalso
          have hlle : left_ (fun j => !(listed.setIfInBounds i true).getD j false) ops.size < left_ (fun j => !listed.getD j false) ops.size := by
            refine left_lt (fun j hj => ?_) (j := i) (by rw [h1]; rfl) (by rw [getD_set_true_self (by omega)]; decide) ops.size hlt
            by_cases e : j = i
            · subst e; rw [h1]; rfl
            · rw [getD_set_ne false (Ne.symm e)] at hj; exact hj
          have := left_none (p := fun j => !(listed.setIfInBounds i true).getD j false) (N := ops.size) (by omega) (i + 1) (by omega)
          simp only [hM2] at this; cases this
        | succ k' => exact ⟨k', rfl⟩
      obtain ⟨k', rfl⟩ := hk1
      refine ⟨fun hr => absurd (hr ▸ hrdy2) (by simp), fun j hj => ?_⟩
      have hj1 : j = i + 1 := by
        have hjl := rdy _ j hj
        obtain ⟨hj1, _⟩ := mem_ready.1 hj
        have hj2 := getD_tf hj1
        rcases Nat.lt_or_ge j (i + 1) with h | h
        · rw [hset j h] at hj2; cases hj2
        · omega
      subst hj1
      refine wpOpIn_step hoa (fun K2 hK2 => ?_)
      rw [if_pos (by simp [Region.wanted, hga])]
      refine Oper.wpIn_mono (fun a3 w3 h3 => hK2 _ _ ?_) h2
      refine wpAnyIn_done ?_ h3 k'
      refine List.eq_nil_iff_forall_not_mem.2 fun j hj => ?_
      have hjl := rdy _ j hj
      obtain ⟨hj1, _⟩ := mem_ready.1 hj
      have hj2 := getD_tf hj1
      by_cases e : j = i + 1
      · subst e; rw [getD_set_true_self (by simp [hls]; omega)] at hj2; cases hj2
      · rw [getD_set_ne false (Ne.symm e), hset j (by omega)] at hj2; cases hj2
end
section
variable {P : Program} {Q : Exit → Act → World → Prop} {n m : Nat} {e : Env} {w : World}
/-- The same, of a region of the text. -/
theorem wc_pureY {id : Nat} {l : List Oper} {oc oa : Oper} (M : Nat) (dsts : List Nat) (deps : Nat → List Nat) (vals : Nat → Value) (e2 : Env) (hm : P.follows .mixedOrders = true) (hsz : l.length = M + 2) (hoc : l[M]? = some oc) (hoa : l[M + 1]? = some oa)
    (hd : (l.take M).map (·.dst) = dsts.map some) (hg : l.all (fun o => o.guard.isNone) = true) (hn : dsts.all (fun d => Nat.blt d n) = true) (hlook : dsts.all (fun d => (look d e).isNone) = true) (hnd : (l.take M).all (fun o => match o.op with | .defer _ => false | _ => true) = true)
    (hc : ((List.range M).all (fun i => ((List.range M).all fun j => !(Nat.beq (dsts.getD i 0) (dsts.getD j 0)) || Nat.beq i j) && (deps i).all (fun j => Nat.blt j M && waitsN .any l.toArray 8 i j)) && (List.range l.length).all (fun i => (l.toArray[i]?).all fun o => o.after.all fun x => !(Region.binds .any x) || Nat.blt x.on i) && (List.range M).all (fun j => waitsN .any l.toArray 8 M j) && waitsN .any l.toArray 8 (M + 1) M) = true)
    (hp : AllPu P w.drew n e dsts deps vals 0 (l.take M)) (hs : Sub (((List.range M).map fun j => (dsts.getD j 0, vals j)) ++ e) e2) (k : WLi P l.toArray Q n m none [oc, oa] e2 w.drew) : WC P Q n (.region id l.toArray true) e w := fun a F => by
  simp only [Bool.and_eq_true, List.all_eq_true, List.mem_range, Bool.or_eq_true, Bool.not_eq_true', Nat.blt_eq] at hc
  obtain ⟨⟨⟨h1, h2⟩, h3⟩, h4⟩ := hc
  have hga : ∀ (i : Nat) (o : Oper), l[i]? = some o → o.guard = none := fun i o ho => by
    have := List.all_eq_true.1 hg o (List.mem_of_getElem? ho)
    simpa using this
  have htk : ∀ (i : Nat) (o : Oper), i < M → l.toArray[i]? = some o → (l.take M)[i]? = some o := fun i o hi ho => by
    rw [List.getElem?_take, if_pos hi]; simpa using ho
  refine (wpIn_wide (n := m)).1 (wpIn_region_any hm (wpAnyIn_pureY (m := m) (ro := none) (n := n) (e := e) (dst := fun i => dsts.getD i 0) (deps := deps) (vals := vals) (M := M) (oc := oc) (oa := oa) (by simp [hsz]) (by simpa using hoc) (by simpa using hoa) (hga M oc hoc) (hga _ oa hoa) (fun i o hi ho => ?_) (fun i j hi hj h => ?_) (fun i o hi ho c hcc => ?_) (fun i o ho x hx hb => ?_) (fun i hi j hj => ?_) h3 h4 (fun i o hi ho => ?_) (fun a1 F1 hv => ?_) _ _ _ (by simp) ?_ (closed_none _) (by simp [hsz]) (by simp [hsz]) F (fun i hi hl => ?_)))
  · have ho2 := htk i o hi ho
    have h5 : ((l.take M).map (·.dst))[i]? = some o.dst := by rw [List.getElem?_map, ho2]; rfl
    rw [hd, List.getElem?_map] at h5
    obtain ⟨d, h6, h7⟩ := Option.map_eq_some_iff.1 h5
    have h8 : dsts.getD i 0 = d := by simp [List.getD, h6]
    have h9 := List.mem_of_getElem? h6
    refine ⟨hga i o (by simpa using ho), by show o.dst = some (dsts.getD i 0); rw [h8]; exact h7.symm, ?_, ?_⟩
    · show dsts.getD i 0 < n
      rw [h8]; have := List.all_eq_true.1 hn d h9; simpa [Nat.blt_eq] using this
    · show look (dsts.getD i 0) e = none
      rw [h8]; have := List.all_eq_true.1 hlook d h9; simpa using this
  · rcases (h1 i hi).1 j hj with h' | h'
    · exfalso
      have h5 : dsts.getD i 0 = dsts.getD j 0 := h
      rw [h5, Nat.beq_refl] at h'
      cases h'
    · exact Nat.eq_of_beq_eq_true h'
  · have := List.all_eq_true.1 hnd o (List.mem_of_getElem? (htk i o hi ho))
    rw [hcc] at this; cases this
  · have hi : i < l.length := by
      rcases Nat.lt_or_ge i l.length with h | h
      · exact h
      · rw [Array.getElem?_eq_none (by simpa using h)] at ho; cases ho
    have h5 := h2 i hi
    rw [ho] at h5
    simp only [Option.all_some] at h5
    have h6 := Array.all_eq_true'.1 h5 x hx
    simp only [Bool.or_eq_true, Bool.not_eq_true', Nat.blt_eq] at h6
    rcases h6 with h6 | h6
    · rw [hb] at h6; cases h6
    · exact h6
  · have := (h1 i hi).2 j hj
    exact ⟨this.1, this.2⟩
  · have := hp.at_ (htk i o hi ho)
    rwa [Nat.zero_add] at this
  · have F2 : Fr n a1 (((List.range M).map fun j => (dsts.getD j 0, vals j)) ++ e) := by
      have key : ∀ js : List Nat, (∀ j ∈ js, a1.tmps.getD (dsts.getD j 0) undef = vals j) → Fr n a1 (js.map (fun j => (dsts.getD j 0, vals j)) ++ e) := by
        intro js
        induction js with
        | nil => intro _; exact F1
        | cons j r ih2 =>
          intro hj
          have h2 := ih2 (fun x hx => hj x (by simp [hx]))
          refine ⟨F1.size, F1.defs, fun t v hv => ?_⟩
          rw [List.map_cons, List.cons_append, look_cons] at hv
          by_cases e : dsts.getD j 0 = t
          · rw [if_pos e] at hv; rw [← e]; exact (hj j (by simp)).trans (Option.some.inj hv)
          · rw [if_neg e] at hv; exact h2.get t v hv
      exact key _ (fun j hj => hv j (by simpa using hj))
    have hk := k a1 (F2.sub hs)
    unfold wpListIn at hk
    rw [if_pos (by simp [Region.wanted, hga M oc hoc])] at hk
    refine Oper.wpIn_mono (fun a2 w2 h => ?_) hk
    unfold wpListIn at h
    rw [if_pos (by simp [Region.wanted, hga _ oa hoa])] at h
    exact h
  · have : ∀ (p : Nat → Bool) N, left_ p N ≤ N := fun p N => by
      induction N with
      | zero => exact Nat.le_refl _
      | succ N ih => simp only [left_]; split <;> omega
    exact this _ _
  · exfalso
    rw [Array.getD_eq_getD_getElem?] at hl
    rcases Nat.lt_or_ge i (Array.replicate l.toArray.size false).size with h | h
    · rw [Array.getElem?_eq_getElem h, Array.getElem_replicate] at hl; cases hl
    · rw [Array.getElem?_eq_none h] at hl; cases hl
end
end Go.Gx
