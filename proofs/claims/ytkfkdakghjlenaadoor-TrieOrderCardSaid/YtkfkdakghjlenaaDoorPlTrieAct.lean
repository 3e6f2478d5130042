/-
  Own text: plain: tries made by acts, and what the laws of layer 11 say of them.
-/
import Derived.Test.YtkfkdakghjlenaaDoorPlEncs
import Derived.KernelRfl
set_option linter.unusedSimpArgs false
set_option linter.unusedVariables false
namespace Go.Gx
open Go.Plain
/-! ### How many -/
section
variable {o s : Option Tr} {k v : H8}
theorem srt_nodup {m : List (H8 × H8)} (h : Srt m) : m.Nodup := by
  show List.Pairwise (fun a b => a ≠ b) m
  refine List.Pairwise.imp (R := fun x y : H8 × H8 => ltK x.1 y.1) ?_ h
  intro a b hab e
  rw [e] at hab
  exact ltK_irrefl _ hab
theorem mdrop_len : ∀ {m : List (H8 × H8)}, Srt m → (mdrop m k).length + (if (mget m k).isSome = true then 1 else 0) = m.length
  | [], _ => rfl
  | x :: r, h => by
    obtain ⟨h1, h2⟩ := List.pairwise_cons.1 h
    by_cases e : x.1 = k
    · have hr : mdrop r k = r := by
        unfold mdrop
        refine List.filter_eq_self.2 fun y hy => ?_
        have : ¬ y.1 = k := fun e2 => ltK_ne (h1 y hy) (by rw [e, e2])
        simp [this]
      have hd : mdrop (x :: r) k = mdrop r k := by simp [mdrop, e]
      have hg : mget (x :: r) k = some x.2 := by rw [mget, if_pos e]
      rw [hd, hr, hg]; simp
    · have hd : mdrop (x :: r) k = x :: mdrop r k := by simp [mdrop, e]
      have hg : mget (x :: r) k = mget r k := by rw [mget, if_neg e]
      have := mdrop_len (m := r) h2
      rw [hd, hg]; simp only [List.length_cons]; omega
theorem mput_len {m : List (H8 × H8)} (hk : k.length = 32) (h : Srt m) (hl : ∀ x ∈ m, x.1.length = 32) : (mput m k v).length = (mdrop m k).length + 1 := by
  have h1 : (mput m k v).Nodup := srt_nodup (mput_srt hk h hl)
  have h2 : ((k, v) :: mdrop m k).Nodup := List.nodup_cons.2 ⟨fun hm => (mdrop_mem.1 hm).2 rfl, srt_nodup (mdrop_srt h)⟩
  have : (mput m k v).Perm ((k, v) :: mdrop m k) := (List.perm_ext_iff_of_nodup h1 h2).2 fun x => by rw [mput_mem, List.mem_cons, mdrop_mem]
  exact this.length_eq
theorem dropT_len (h : WFO o) : cntT (dropT o k) + (if (getT o k).isSome = true then 1 else 0) = cntT o := by
  rw [← itemsT_cnt, ← itemsT_cnt, dropT_items h, getT_get h]; exact mdrop_len h.srt
theorem dropT_cnt (h : WFO o) : cntT (dropT o k) ≤ cntT o := by have := dropT_len (k := k) h; omega
theorem putT_len (h : WFO o) (hk : k.length = 32) (hv : v.length = 32) : cntT (putT o k v) + (if (getT o k).isSome = true then 1 else 0) = cntT o + 1 := by
  have h1 := mdrop_len (k := k) h.srt
  have h2 := mput_len (v := v) hk h.srt (fun x hx => (h.len x hx).1)
  rw [← itemsT_cnt, ← itemsT_cnt, putT_items h hk hv, getT_get h]; omega
/-! ### Acts -/
def actT (o : Option Tr) (a : AC) : Option Tr := if a.dr = true then dropT o a.k else putT o a.k a.v
def mkA (l : List AC) : Option Tr := l.foldl actT none
theorem mkA_snoc (l : List AC) (x : AC) : mkA (l ++ [x]) = actT (mkA l) x := by simp [mkA]
theorem mkA_take {l : List AC} {i : Nat} {d : AC} (hi : i < l.length) : mkA (l.take (i + 1)) = actT (mkA (l.take i)) (l.getD i d) := by rw [getD_take (d := d) hi, mkA_snoc]
theorem actT_wf {a : AC} (h : WFO o) (hk : a.k.length = 32) (hv : a.v.length = 32) : WFO (actT o a) := by
  unfold actT; split
  · exact dropT_wf h
  · exact putT_wf h hk hv
theorem actT_cnt {a : AC} (h : WFO o) : cntT (actT o a) ≤ cntT o + 1 := by
  unfold actT; split
  · exact Nat.le_trans (dropT_cnt h) (Nat.le_succ _)
  · exact putT_cnt
theorem mkA_ok : ∀ (l : List AC) (i : Nat), (∀ x ∈ l, x.k.length = 32 ∧ x.v.length = 32) → i ≤ l.length → WFO (mkA (l.take i)) ∧ cntT (mkA (l.take i)) ≤ i
  | l, 0, h, _ => ⟨fun t e => by simp [mkA] at e, Nat.le_refl _⟩
  | l, i + 1, h, hi => by
    obtain ⟨h1, h2⟩ := mkA_ok l i h (by omega)
    have hx := h _ (getD_mem (d := (⟨zeroH, zeroH, false⟩ : AC)) (show i < l.length by omega))
    rw [mkA_take (d := ⟨zeroH, zeroH, false⟩) (by omega)]
    exact ⟨actT_wf h1 hx.1 hx.2, Nat.le_trans (actT_cnt h1) (by omega)⟩
theorem mkA_all {l : List AC} (h : ∀ x ∈ l, x.k.length = 32 ∧ x.v.length = 32) : WFO (mkA l) ∧ cntT (mkA l) ≤ l.length := by
  have := mkA_ok l l.length h (Nat.le_refl _)
  rwa [List.take_length] at this
/-! ### Puts in any order; puts and their taking back -/
def putsI (o : Option Tr) (m : List (H8 × H8)) : Option Tr := m.foldl (fun o x => putT o x.1 x.2) o
theorem putsI_wf : ∀ {m : List (H8 × H8)} {o : Option Tr}, WFO o → (∀ x ∈ m, x.1.length = 32 ∧ x.2.length = 32) → WFO (putsI o m)
  | [], o, h, _ => h
  | x :: m, o, h, hm => putsI_wf (m := m) (putT_wf h (hm x (List.mem_cons_self ..)).1 (hm x (List.mem_cons_self ..)).2) fun y hy => hm y (List.mem_cons_of_mem _ hy)
theorem putsI_snoc (m : List (H8 × H8)) (x : H8 × H8) : putsI o (m ++ [x]) = putT (putsI o m) x.1 x.2 := by simp [putsI]
theorem putsI_mem : ∀ {m : List (H8 × H8)} {o : Option Tr}, WFO o → (∀ x ∈ m, x.1.length = 32 ∧ x.2.length = 32) → m.Pairwise (fun x y => x.1 ≠ y.1) → (∀ x ∈ m, ∀ y ∈ itemsT o, x.1 ≠ y.1) → ∀ e, e ∈ itemsT (putsI o m) ↔ e ∈ m ∨ e ∈ itemsT o
  | [], o, _, _, _, _, e => by simp [putsI]
  | x :: m, o, h, hm, hp, hd, e => by
    obtain ⟨p1, p2⟩ := List.pairwise_cons.1 hp
    have hx := hm x (List.mem_cons_self ..)
    have hw := putT_wf (o := o) h hx.1 hx.2
    have hmem := fun e => putT_mem (o := o) (v := x.2) h hx.1 e
    have := putsI_mem (m := m) hw (fun y hy => hm y (List.mem_cons_of_mem _ hy)) p2 (fun y hy z hz => by
      rcases (hmem z).1 hz with rfl | ⟨h1, h2⟩
      · exact fun e => p1 y hy e.symm
      · exact hd y (List.mem_cons_of_mem _ hy) z h1) e
    show e ∈ itemsT (putsI (putT o x.1 x.2) m) ↔ _
    rw [this, hmem e, List.mem_cons]
    constructor
    · rintro (h1 | h1 | ⟨h1, h2⟩)
      · exact .inl (.inr h1)
      · exact .inl (.inl h1)
      · exact .inr h1
    · rintro ((h1 | h1) | h1)
      · exact .inr (.inl h1)
      · exact .inl h1
      · exact .inr (.inr ⟨h1, fun e2 => hd x (List.mem_cons_self ..) e h1 e2.symm⟩)
theorem mem_ext (h : WFO o) (h2 : WFO s) (e : ∀ x, x ∈ itemsT o ↔ x ∈ itemsT s) : o = s := itemsT_inj h h2 (srt_ext h.srt h2.srt e)
theorem srt_ne {m : List (H8 × H8)} (h : Srt m) : m.Pairwise (fun x y => x.1 ≠ y.1) := List.Pairwise.imp (fun hab => ltK_ne hab) h
theorem putsI_rev (h : WFO o) : putsI none (itemsT o).reverse = o := by
  have hl := h.len
  have hr : ∀ x ∈ (itemsT o).reverse, x.1.length = 32 ∧ x.2.length = 32 := fun x hx => hl x (List.mem_reverse.1 hx)
  have hn : WFO none := fun t e => by cases e
  refine mem_ext (putsI_wf hn hr) h fun x => ?_
  rw [putsI_mem hn hr (List.pairwise_reverse.2 ((srt_ne h.srt).imp fun h e => h e.symm)) (fun x _ y hy => by simp [itemsT] at hy)]
  simp [itemsT]
def putsA (o : Option Tr) (l : List AC) : Option Tr := l.foldl (fun o x => putT o x.k x.v) o
def backA (t : Option Tr) (o : Option Tr) (l : List AC) : Option Tr := l.foldl (fun o x => match getT t x.k with | some v => putT o x.k v | none => dropT o x.k) o
theorem putsA_snoc (l : List AC) (x : AC) : putsA o (l ++ [x]) = putT (putsA o l) x.k x.v := by simp [putsA]
theorem backA_snoc (t : Option Tr) (l : List AC) (x : AC) : backA t o (l ++ [x]) = (match getT t x.k with | some v => putT (backA t o l) x.k v | none => dropT (backA t o l) x.k) := by simp [backA]
theorem putsA_take {l : List AC} {i : Nat} {d : AC} (hi : i < l.length) : putsA o (l.take (i + 1)) = putT (putsA o (l.take i)) (l.getD i d).k (l.getD i d).v := by rw [getD_take (d := d) hi, putsA_snoc]
theorem backA_take {t : Option Tr} {l : List AC} {i : Nat} {d : AC} (hi : i < l.length) : backA t o (l.take (i + 1)) = (match getT t (l.getD i d).k with | some v => putT (backA t o (l.take i)) (l.getD i d).k v | none => dropT (backA t o (l.take i)) (l.getD i d).k) := by rw [getD_take (d := d) hi, backA_snoc]
theorem getT_len (h : WFO o) {u : H8} (hu : getT o k = some u) : k.length = 32 ∧ u.length = 32 := h.len _ ((getT_mem h).1 hu)
theorem putsA_ok : ∀ {l : List AC} {o : Option Tr}, WFO o → (∀ x ∈ l, x.k.length = 32 ∧ x.v.length = 32) → WFO (putsA o l) ∧ cntT (putsA o l) ≤ cntT o + l.length ∧ ∀ q, (∀ x ∈ l, q ≠ x.k) → getT (putsA o l) q = getT o q
  | [], o, h, _ => ⟨h, Nat.le_refl _, fun _ _ => rfl⟩
  | x :: l, o, h, hl => by
    have hx := hl x (List.mem_cons_self ..)
    obtain ⟨h1, h2, h3⟩ := putsA_ok (l := l) (putT_wf h hx.1 hx.2) fun y hy => hl y (List.mem_cons_of_mem _ hy)
    have hc := putT_cnt (o := o) (k := x.k) (v := x.v)
    refine ⟨h1, by show cntT (putsA (putT o x.k x.v) l) ≤ _; simp only [List.length_cons]; omega, fun q hq => ?_⟩
    rw [show putsA o (x :: l) = putsA (putT o x.k x.v) l from rfl, h3 q (fun y hy => hq y (List.mem_cons_of_mem _ hy)), getT_put h hx.1 hx.2, if_neg (hq x (List.mem_cons_self ..))]
theorem backA_ok {t : Option Tr} (ht : WFO t) : ∀ {l : List AC} {o : Option Tr}, WFO o → (∀ x ∈ l, x.k.length = 32 ∧ x.v.length = 32) → WFO (backA t o l) ∧ cntT (backA t o l) ≤ cntT o + l.length ∧ ∀ q, getT (backA t o l) q = if ∃ x ∈ l, q = x.k then getT t q else getT o q
  | [], o, h, _ => ⟨h, Nat.le_refl _, fun q => by simp [backA]⟩
  | x :: l, o, h, hl => by
    have hx := hl x (List.mem_cons_self ..)
    have hs : ∃ o2, backA t o (x :: l) = backA t o2 l ∧ WFO o2 ∧ cntT o2 ≤ cntT o + 1 ∧ ∀ q, getT o2 q = if q = x.k then getT t q else getT o q := by
      cases hg : getT t x.k with
      | none => exact ⟨dropT o x.k, by simp [backA, hg], dropT_wf h, Nat.le_trans (dropT_cnt h) (Nat.le_succ _), fun q => by
          rw [getT_drop h]; split
          · rename_i e; rw [e, hg]
          · rfl⟩
      | some u => exact ⟨putT o x.k u, by simp [backA, hg], putT_wf h hx.1 (getT_len ht hg).2, putT_cnt, fun q => by
          rw [getT_put h hx.1 (getT_len ht hg).2]; split
          · rename_i e; rw [e, hg]
          · rfl⟩
    obtain ⟨o2, e, hw2, hc2, hg2⟩ := hs
    obtain ⟨h1, h2, h3⟩ := backA_ok ht (l := l) hw2 fun y hy => hl y (List.mem_cons_of_mem _ hy)
    rw [e]
    refine ⟨h1, by simp only [List.length_cons]; omega, fun q => ?_⟩
    rw [h3 q, hg2 q]
    by_cases e1 : ∃ y ∈ l, q = y.k
    · rw [if_pos e1, if_pos (by obtain ⟨y, hy, e2⟩ := e1; exact ⟨y, List.mem_cons_of_mem _ hy, e2⟩)]
    · rw [if_neg e1]
      by_cases e2 : q = x.k
      · rw [if_pos e2, if_pos ⟨x, List.mem_cons_self .., e2⟩]
      · rw [if_neg e2, if_neg (by rintro ⟨y, hy, e3⟩; exact (List.mem_cons.1 hy).elim (fun h5 => e2 (h5 ▸ e3)) (fun hy => e1 ⟨y, hy, e3⟩))]
theorem order_ok {l : List AC} (h : WFO o) (hl : ∀ x ∈ l, x.k.length = 32 ∧ x.v.length = 32) : backA o (putsA o l) l = o := by
  obtain ⟨h1, _, h3⟩ := putsA_ok h hl
  obtain ⟨b1, _, b3⟩ := backA_ok h (o := putsA o l) h1 hl
  refine treeT_ext b1 h fun q _ => ?_
  rw [b3 q]
  split
  · rfl
  · rename_i hn; exact h3 q (fun x hx e => hn ⟨x, hx, e⟩)
/-- What was put and is taken back. -/
theorem alike_ok {x : H8} (h : WFO o) (hk : k.length = 32) (hv : v.length = 32) : (match getT o k with | some u => putT (dropT (putT o k v) k) k u | none => dropT (putT o k v) k) = o := by
  have hp := putT_wf h hk hv
  have hd := dropT_wf (k := k) hp
  cases hg : getT o k with
  | none =>
    refine treeT_ext hd h fun q _ => ?_
    rw [getT_drop hp, getT_put h hk hv]
    split
    · rename_i e; rw [e, hg]
    · rfl
  | some u =>
    have hu := (getT_len h hg).2
    refine treeT_ext (putT_wf hd hk hu) h fun q _ => ?_
    rw [getT_put hd hk hu]
    split
    · rename_i e; rw [e, hg]
    · rename_i e; rw [getT_drop hp, if_neg e, getT_put h hk hv, if_neg e]
end
theorem bits_same {a b : H8} (ha : a.length = 32) (hb : b.length = 32) : decide (((apartK a b : Nat) : Int) = 256) = (a == b) := by
  have h := apartK_eq ha hb
  rw [Bool.eq_iff_iff]
  simp only [decide_eq_true_eq, beq_iff_eq]
  rw [← h]
  omega
theorem take_stop {α : Type} {L pre q : List α} {x : α} {n : Int} (hq : L = pre ++ x :: q) (h : (pre.length : Int) = n) : pre = (if n < 0 then L else L.take n.toNat) := by
  subst hq
  rw [if_neg (by omega), show n.toNat = pre.length by omega, List.take_left]
theorem take_done {α : Type} {L xs : List α} {n : Int} (hS : xs = L) (h : n < 0 ∨ (xs.length : Int) ≤ n) : xs = (if n < 0 then L else L.take n.toNat) := by
  subst hS
  split
  · rfl
  · rw [List.take_of_length_le (by omega)]
theorem lives11_eq : dropT (putT (putT none ((List.replicate 32 (0 : UInt8)).set 0 1) zeroH) ((List.replicate 32 (0 : UInt8)).set 5 1) zeroH) ((List.replicate 32 (0 : UInt8)).set 5 1) = some (.leaf ((List.replicate 32 (0 : UInt8)).set 0 1) zeroH) := by kernel_rfl
end Go.Gx
