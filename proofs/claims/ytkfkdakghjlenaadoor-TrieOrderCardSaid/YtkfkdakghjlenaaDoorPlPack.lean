/-
  Own text: plain law of layer 1: numbers as bytes. No program in sight.
-/
import Derived.Test.YtkfkdakghjlenaaDoorGxAux
set_option linter.unusedSimpArgs false
set_option linter.unusedVariables false
namespace Go.Plain
open Go.Gx
/-- The bytes of a number, greatest first, none for 0. -/
def be (x : Nat) : List UInt8 := if h : x = 0 then [] else be (x / 256) ++ [UInt8.ofNat x]
termination_by x
theorem be_zero : be 0 = [] := by rw [be]; simp
theorem be_pos {x : Nat} (h : 0 < x) : be x = be (x / 256) ++ [UInt8.ofNat x] := by rw [be]; rw [dif_neg (by omega)]
/-- A number as bytes. -/
def encN (x : Nat) : List UInt8 := if x < 248 then [UInt8.ofNat x] else UInt8.ofNat (247 + (be x).length) :: be x
theorem encN_small {x : Nat} (h : x < 248) : encN x = [UInt8.ofNat x] := by rw [encN, if_pos h]
theorem encN_great {x : Nat} (h : 248 ≤ x) : encN x = UInt8.ofNat (247 + (be x).length) :: be x := by rw [encN, if_neg (by omega)]
theorem be_le : ∀ (k x : Nat), x < 256 ^ k → (be x).length ≤ k := by
  intro k
  induction k with
  | zero => intro x h; have : x = 0 := by simpa using h
            subst this; simp [be_zero]
  | succ k ih =>
    intro x h
    by_cases h0 : x = 0
    · subst h0; simp [be_zero]
    · rw [be_pos (by omega), List.length_append, List.length_singleton]
      have := ih (x / 256) (by rw [Nat.div_lt_iff_lt_mul (by omega), ← Nat.pow_succ]; exact h)
      omega
theorem be_len {x : Nat} (h : x < 18446744073709551616) : (be x).length ≤ 8 := be_le 8 x (by simpa using h)
theorem encN_len {x : Nat} (h : x < 18446744073709551616) : (encN x).length ≤ 9 := by
  unfold encN
  split
  · simp
  · have := be_len h; simp; omega
theorem encN_pos (x : Nat) : 0 < (encN x).length := by unfold encN; split <;> simp
theorem set_rep (m : Nat) (r : List UInt8) (x : UInt8) : (List.replicate (m + 1) (0 : UInt8) ++ r).set m x = List.replicate m 0 ++ x :: r := by
  induction m with
  | zero => rfl
  | succ m ih => rw [List.replicate_succ, List.cons_append, List.set_cons_succ, ih, List.replicate_succ, List.cons_append]
theorem drop_rep (m : Nat) (r : List UInt8) : (List.replicate m (0 : UInt8) ++ r).drop m = r := by
  rw [List.drop_append_of_le_length (by simp), List.drop_of_length_le (by simp), List.nil_append]

/-- The number that bytes are, greatest first. -/
def val (l : List UInt8) : Nat := l.foldl (fun n x => n * 256 + x.toNat) 0
theorem val_nil : val [] = 0 := rfl
theorem val_snoc (l : List UInt8) (x : UInt8) : val (l ++ [x]) = val l * 256 + x.toNat := by simp [val]
theorem snoc_ind {p : List UInt8 → Prop} (h0 : p []) (h1 : ∀ l x, p l → p (l ++ [x])) (l : List UInt8) : p l := by
  have : ∀ r : List UInt8, p r.reverse := by
    intro r
    induction r with
    | nil => exact h0
    | cons x r ih => rw [List.reverse_cons]; exact h1 _ _ ih
  simpa using this l.reverse
theorem val_lt (l : List UInt8) : val l < 256 ^ l.length := by
  induction l using snoc_ind with
  | h0 => simp [val]
  | h1 l x ih =>
    rw [val_snoc, List.length_append, List.length_singleton, Nat.pow_succ]
    have := x.toNat_lt
    omega
theorem val_lt8 {l : List UInt8} (h : l.length ≤ 8) : val l < 18446744073709551616 := Nat.lt_of_lt_of_le (val_lt l) (by
  have : 256 ^ l.length ≤ 256 ^ 8 := Nat.pow_le_pow_right (by omega) h
  simpa using this)
theorem val_zeros (m : Nat) (l : List UInt8) : val (List.replicate m 0 ++ l) = val l := by
  induction l using snoc_ind with
  | h0 =>
    rw [List.append_nil]
    induction m with
    | zero => rfl
    | succ m ih => rw [List.replicate_succ', val_snoc, ih]; simp [val]
  | h1 l x ih => rw [← List.append_assoc, val_snoc, val_snoc, ih]
theorem val_be (x : Nat) : val (be x) = x := by
  induction x using Nat.strongRecOn with
  | _ x ih =>
    by_cases h : x = 0
    · subst h; rw [be_zero]; rfl
    · rw [be_pos (by omega), val_snoc, ih (x / 256) (by omega)]
      have : (UInt8.ofNat x).toNat = x % 256 := by simp
      rw [this]; omega
theorem be_val {l : List UInt8} (h : ∀ x r, l = x :: r → x ≠ 0) : be (val l) = l := by
  induction l using snoc_ind with
  | h0 => rw [val_nil, be_zero]
  | h1 l x ih =>
    have hl : ∀ y r, l = y :: r → y ≠ 0 := fun y r e => h y (r ++ [x]) (by rw [e]; rfl)
    have h0 : 0 < val (l ++ [x]) := by
      rcases l with _ | ⟨y, r⟩
      · have hx := h x [] rfl
        rw [val_snoc, val_nil]
        have : x.toNat ≠ 0 := fun e => hx (UInt8.toNat_inj.1 (by simpa using e))
        omega
      · have e1 := ih hl
        rw [val_snoc]
        have : val (y :: r) ≠ 0 := fun e => by rw [e, be_zero] at e1; cases e1
        omega
    rw [be_pos h0, val_snoc]
    have hx := x.toNat_lt
    rw [show (val l * 256 + x.toNat) / 256 = val l by omega, ih hl]
    have e : UInt8.ofNat (val l * 256 + x.toNat) = x := by
      apply UInt8.toNat_inj.1
      simp
    rw [e]

/-- What bytes begin with, as a number: the number, and how many bytes it takes. -/
def gn (b : List UInt8) : Option (Nat × Nat) :=
  if b.length = 0 then none
  else if (b.getD 0 0).toNat < 248 then some ((b.getD 0 0).toNat, 1)
  else if b.length ≤ (b.getD 0 0).toNat - 247 ∨ (b.getD 1 0).toNat = 0 then none
  else if val ((b.drop 1).take ((b.getD 0 0).toNat - 247)) < 248 then none
  else some (val ((b.drop 1).take ((b.getD 0 0).toNat - 247)), 1 + ((b.getD 0 0).toNat - 247))
def gnv (b : List UInt8) : Nat := ((gn b).getD (0, 0)).1
def gnk (b : List UInt8) : Nat := ((gn b).getD (0, 0)).2
def gno (b : List UInt8) : Bool := (gn b).isSome
theorem gn_le {b : List UInt8} {n k : Nat} (h : gn b = some (n, k)) : k ≤ b.length ∧ n < 18446744073709551616 ∧ 0 < k := by
  unfold gn at h
  have h8 := (b.getD 0 0).toNat_lt
  split at h
  · cases h
  · split at h
    · injection h with h; injection h with h1 h2
      refine ⟨by omega, ?_, by omega⟩
      rw [← h1]; exact Nat.lt_trans h8 (by decide)
    · split at h
      · cases h
      · split at h
        · cases h
        · injection h with h; injection h with h1 h2
          refine ⟨by omega, ?_, by omega⟩
          rw [← h1]
          exact val_lt8 (by rw [List.length_take]; omega)
theorem gnk_le (b : List UInt8) : gnk b ≤ b.length := by
  unfold gnk
  cases h : gn b with
  | none => simp
  | some p => exact (gn_le (n := p.1) (k := p.2) h).1
theorem gnv_lt (b : List UInt8) : gnv b < 18446744073709551616 := by
  unfold gnv
  cases h : gn b with
  | none => simp
  | some p => exact (gn_le (n := p.1) (k := p.2) h).2.1
theorem gn_none {b : List UInt8} (h : gn b = none) : gnv b = 0 ∧ gnk b = 0 ∧ gno b = false := by simp [gnv, gnk, gno, h]
theorem gn_some {b : List UInt8} {n k : Nat} (h : gn b = some (n, k)) : gnv b = n ∧ gnk b = k ∧ gno b = true := by simp [gnv, gnk, gno, h]
theorem gn_of {b : List UInt8} (h : gno b = true) : gn b = some (gnv b, gnk b) := by
  unfold gno at h; unfold gnv gnk
  cases hg : gn b with
  | none => simp [hg] at h
  | some p => rfl

/-- A text as bytes; texts as bytes. -/
def encS (s : ByteArray) : List UInt8 := encN s.size ++ s.data.toList
/-- The first k of q, behind how many there are. -/
def encP (q : List ByteArray) (k : Nat) : List UInt8 := encN q.length ++ ((q.take k).map encS).flatten
def encL (q : List ByteArray) : List UInt8 := encP q q.length
theorem encP_zero (q : List ByteArray) : encP q 0 = encN q.length := by simp [encP]
theorem encP_all (q : List ByteArray) : encP q q.length = encL q := rfl
theorem encS_length (s : ByteArray) : (encS s).length = (encN s.size).length + s.size := by
  have e : s.data.toList.length = s.size := Array.length_toList
  rw [encS, List.length_append, e]
theorem encP_succ {q : List ByteArray} {k : Nat} (h : k < q.length) : encP q (k + 1) = encP q k ++ encS (q.getD k ByteArray.empty) := by
  have e : q.getD k ByteArray.empty = q[k] := by simp [List.getD, List.getElem?_eq_getElem h]
  rw [e, encP, encP, List.take_succ_eq_append_getElem h, List.map_append, List.flatten_append, List.append_assoc]
  simp only [List.map_cons, List.map_nil, List.flatten_cons, List.flatten_nil, List.append_nil]
/-- A bound of how many bytes texts take. -/
def lstSz (q : List ByteArray) : Nat := 9 + (q.map fun s => s.size + 9).sum
theorem len_lstSz (q : List ByteArray) : q.length + 9 ≤ lstSz q := by
  unfold lstSz
  induction q with
  | nil => simp
  | cons s q ih => simp at ih ⊢; omega
theorem encS_len {s : ByteArray} (h : s.size < 18446744073709551616) : (encS s).length ≤ s.size + 9 := by
  have := encN_len h
  unfold encS
  have e : s.data.toList.length = s.size := Array.length_toList
  rw [List.length_append, e]
  omega

theorem lstSz_take {q : List ByteArray} {k : Nat} (h : k < q.length) : (encN q.length).length ≤ 9 → (∀ s ∈ q, s.size < 18446744073709551616) → (encP q k).length + (encN (q.getD k ByteArray.empty).size).length + (q.getD k ByteArray.empty).size ≤ lstSz q := by
  intro h9 hs
  have key : ∀ (l : List ByteArray), (∀ s ∈ l, s.size < 18446744073709551616) → ((l.map encS).flatten).length ≤ (l.map fun s => s.size + 9).sum := by
    intro l
    induction l with
    | nil => simp
    | cons s l ih =>
      intro hl
      have h1 := encS_len (s := s) (hl s (by simp))
      have h2 := ih (fun x hx => hl x (by simp [hx]))
      simp only [List.map_cons, List.flatten_cons, List.length_append, List.sum_cons]
      omega
  have h1 := key (q.take (k + 1)) (fun s hm => hs s (List.mem_of_mem_take hm))
  have h2 : ((q.take (k + 1)).map fun s => s.size + 9).sum ≤ (q.map fun s => s.size + 9).sum := by
    have := congrArg (fun l => (l.map fun s : ByteArray => s.size + 9).sum) (List.take_append_drop (k + 1) q)
    simp only [List.map_append, List.sum_append] at this
    omega
  have e := encP_succ h
  have e2 : (encP q (k + 1)).length = (encP q k).length + (encN (q.getD k ByteArray.empty).size).length + (q.getD k ByteArray.empty).size := by
    rw [e, List.length_append, encS_length]; omega
  have e4 : (encP q (k + 1)).length = (encN q.length).length + ((q.take (k + 1)).map encS).flatten.length := by rw [encP, List.length_append]
  unfold lstSz
  omega
theorem size_lstSz {q : List ByteArray} {s : ByteArray} (h : s ∈ q) : s.size + 9 ≤ lstSz q := by
  unfold lstSz
  induction q with
  | nil => cases h
  | cons x q ih =>
    rcases List.mem_cons.1 h with rfl | h
    · simp; omega
    · have := ih h; simp at this ⊢; omega

theorem val_or {n : Nat} {x : UInt8} (h : n < 72057594037927936) : (n * 2 ^ 8 % 18446744073709551616 ||| x.toNat) = n * 256 + x.toNat := by
  have hx := x.toNat_lt
  rw [Nat.mod_eq_of_lt (by omega)]
  have := Nat.shiftLeft_add_eq_or_of_lt (i := 8) (b := x.toNat) (by simpa using hx) n
  rw [Nat.shiftLeft_eq] at this
  rw [← this]
theorem val_take_succ {Z : List UInt8} {j : Nat} (h : j < Z.length) : val (Z.take (j + 1)) = val (Z.take j) * 256 + (Z.getD j 0).toNat := by
  rw [List.take_succ_eq_append_getElem h, val_snoc]
  simp [List.getD, List.getElem?_eq_getElem h]
theorem val_take_lt {Z : List UInt8} {j : Nat} (h : j < 8) : val (Z.take j) < 72057594037927936 := Nat.lt_of_lt_of_le (val_lt _) (by
  have : 256 ^ (Z.take j).length ≤ 256 ^ 7 := Nat.pow_le_pow_right (by omega) (by rw [List.length_take]; omega)
  simpa using this)
theorem splice8 {y : List UInt8} {k : Nat} (hk : k ≤ 8) (hy : y.length = k) (m : Nat) (hm : m = k) : (List.replicate 8 (0 : UInt8)).take (8 - k) ++ y.take m ++ (List.replicate 8 (0 : UInt8)).drop (8 - k + m) = List.replicate (8 - k) 0 ++ y := by
  subst hm
  rw [List.drop_of_length_le (by simp; omega), List.append_nil, List.take_replicate, Nat.min_eq_left (by omega), List.take_of_length_le (by omega)]

/-- The text that bytes begin with: its bytes, and where it ends. -/
def gs (b : List UInt8) (most : Int) : Option (List UInt8 × Nat) :=
  match gn b with
  | none => none
  | some (n, k) => if most.toNat < n ∨ b.length - k < n then none else some ((b.drop k).take n, k + n)
def gss (b : List UInt8) (most : Int) : ByteArray := ⟨(((gs b most).getD ([], 0)).1).toArray⟩
def gsk (b : List UInt8) (most : Int) : Nat := ((gs b most).getD ([], 0)).2
def gso (b : List UInt8) (most : Int) : Bool := (gs b most).isSome
theorem gs_none {b : List UInt8} {most : Int} (h : gs b most = none) : gss b most = ⟨#[]⟩ ∧ gsk b most = 0 ∧ gso b most = false := by simp [gss, gsk, gso, h]
theorem gs_some {b l : List UInt8} {most : Int} {k : Nat} (h : gs b most = some (l, k)) : gss b most = ⟨l.toArray⟩ ∧ gsk b most = k ∧ gso b most = true := by simp [gss, gsk, gso, h]
theorem gs_le {b l : List UInt8} {most : Int} {k : Nat} (h : gs b most = some (l, k)) : k ≤ b.length ∧ l.length ≤ k ∧ 0 < k ∧ l.length ≤ most.toNat := by
  unfold gs at h
  cases hg : gn b with
  | none => simp [hg] at h
  | some p =>
    obtain ⟨n, j⟩ := p
    have hj := gn_le hg
    simp only [hg] at h
    split at h
    · cases h
    · injection h with h; injection h with h1 h2
      subst h1 h2
      refine ⟨by omega, ?_, by omega, ?_⟩ <;> rw [List.length_take, List.length_drop] <;> omega
theorem gsk_le (b : List UInt8) (most : Int) : gsk b most ≤ b.length := by
  unfold gsk
  cases h : gs b most with
  | none => simp
  | some p => exact (gs_le (l := p.1) (k := p.2) h).1
theorem gss_size (b : List UInt8) (most : Int) : (gss b most).size ≤ b.length := by
  unfold gss
  cases h : gs b most with
  | none => simp [ByteArray.size]
  | some p =>
    have := gs_le (l := p.1) (k := p.2) h
    simp [ByteArray.size]; omega
/-- The truth that bytes begin with. -/
def gfo (b : List UInt8) : Bool := decide (0 < b.length) && decide ((b.getD 0 0).toNat ≤ 1)
def gfv (b : List UInt8) : Bool := gfo b && decide ((b.getD 0 0).toNat = 1)
def gfk (b : List UInt8) : Nat := if gfo b then 1 else 0
/-- The first k texts behind place a. -/
def glk (b : List UInt8) (most : Int) (a : Nat) : Nat → Option (List ByteArray × Nat)
  | 0 => some ([], a)
  | k + 1 => match glk b most a k with
    | none => none
    | some (l, i) => match gs (b.drop i) most with
      | none => none
      | some (s, j) => some (l ++ [⟨s.toArray⟩], i + j)
theorem glk_none {b : List UInt8} {most : Int} {a k : Nat} (h : glk b most a k = none) : ∀ d, glk b most a (k + d) = none
  | 0 => h
  | d + 1 => by rw [← Nat.add_assoc, glk, glk_none h d]
theorem glk_at {b : List UInt8} {most : Int} {a : Nat} (ha : a ≤ b.length) : ∀ {k : Nat} {l : List ByteArray} {i : Nat}, glk b most a k = some (l, i) → i ≤ b.length ∧ l.length = k ∧ a ≤ i
  | 0, l, i, h => by simp only [glk] at h; injection h with h; injection h with h1 h2; subst h1 h2; simp [ha]
  | k + 1, l, i, h => by
    rw [glk] at h
    cases h1 : glk b most a k with
    | none => simp [h1] at h
    | some p =>
      obtain ⟨l', i'⟩ := p
      have ih := glk_at ha h1
      simp only [h1] at h
      cases h2 : gs (b.drop i') most with
      | none => simp [h2] at h
      | some q =>
        obtain ⟨s, j⟩ := q
        have hj := gs_le h2
        simp only [h2] at h
        injection h with h; injection h with e1 e2
        subst e1 e2
        rw [List.length_drop] at hj
        refine ⟨by omega, by simp [ih.2.1], by omega⟩
def gl (b : List UInt8) (count most : Int) : Option (List ByteArray × Nat) :=
  match gn b with
  | none => none
  | some (n, k) => if count.toNat < n then none else glk b most k n

theorem toList_data (s : ByteArray) : s.toList = s.data.toList := Go.ByteArray.toList_eq s
theorem eqT_true {s u : ByteArray} (h : (s.toList == u.toList) = true) : s = u := by
  rw [toList_data, toList_data] at h
  have := eq_of_beq h
  cases s; cases u; simp at this; rw [this]
theorem eqT_of {s u : ByteArray} (h : s = u) : (s.toList == u.toList) = true := by rw [h]; exact beq_self_eq_true _
theorem eqT_dec (s u : ByteArray) : (s.toList == u.toList) = decide (s = u) := by
  by_cases h : s = u
  · rw [decide_eq_true h, eqT_of h]
  · rw [decide_eq_false h]
    cases hb : (s.toList == u.toList) with
    | false => rfl
    | true => exact absurd (eqT_true hb) h
theorem neT_true {s u : ByteArray} (h : (!(s.toList == u.toList)) = true) : s ≠ u := fun e => by rw [eqT_of e] at h; cases h
theorem neT_false {s u : ByteArray} (h : (!(s.toList == u.toList)) = false) : s = u := eqT_true (by simpa using h)
theorem take_same {p q : List ByteArray} {k : Nat} (hp : k < p.length) (hq : k < q.length) (h : p.take k = q.take k) (e : p.getD k ByteArray.empty = q.getD k ByteArray.empty) : p.take (k + 1) = q.take (k + 1) := by
  rw [List.take_succ_eq_append_getElem hp, List.take_succ_eq_append_getElem hq, h]
  simp [List.getD, List.getElem?_eq_getElem hp, List.getElem?_eq_getElem hq] at e
  rw [e]
theorem same_all {p q : List ByteArray} {k : Nat} (h : p.take k = q.take k) (hp : p.length ≤ k) (hq : q.length ≤ k) : p = q := by
  rwa [List.take_of_length_le hp, List.take_of_length_le hq] at h
theorem getD_mem {l : List ByteArray} {k : Nat} {d : ByteArray} (h : k < l.length) : l.getD k d ∈ l := by
  simp [List.getD, List.getElem?_eq_getElem h]
/-- How many bytes texts have together. -/
def tot (q : List ByteArray) : Nat := (q.map (·.size)).sum
theorem tot_succ {q : List ByteArray} {k : Nat} (h : k < q.length) : tot (q.take (k + 1)) = tot (q.take k) + (q.getD k ByteArray.empty).size := by
  have e : q.getD k ByteArray.empty = q[k] := by simp [List.getD, List.getElem?_eq_getElem h]
  rw [e, List.take_succ_eq_append_getElem h]
  unfold tot; rw [List.map_append, List.sum_append]; simp
theorem tot_take (q : List ByteArray) (k : Nat) : tot (q.take k) ≤ tot q := by
  have := congrArg tot (List.take_append_drop k q)
  unfold tot at this ⊢
  rw [List.map_append, List.sum_append] at this
  omega
def lightB (q : List ByteArray) : Bool := decide (q.length ≤ 300) && decide (q.length + tot q ≤ 4000)
theorem light_long {q : List ByteArray} (h : 300 < q.length) : lightB q = false := by rw [lightB, decide_eq_false (by omega)]; rfl
theorem light_heavy {q : List ByteArray} (h : 4000 < q.length + tot q) : lightB q = false := by rw [lightB, decide_eq_false (p := q.length + tot q ≤ 4000) (by omega), Bool.and_false]
theorem light_yes {q : List ByteArray} (h : q.length ≤ 300) (h2 : q.length + tot q ≤ 4000) : lightB q = true := by rw [lightB, decide_eq_true h, decide_eq_true h2]; rfl
theorem light_is {q : List ByteArray} (h : lightB q = true) : q.length ≤ 300 ∧ q.length + tot q ≤ 4000 := by simpa [lightB] using h
theorem encN_5 : encN 5 = [5] := by rw [encN_small (by omega)]; rfl
theorem encN_248 : encN 248 = [248, 248] := by rw [encN_great (by omega), be_pos (by omega), show 248 / 256 = 0 from rfl, be_zero]; rfl
theorem encN_256 : encN 256 = [249, 1, 0] := by rw [encN_great (by omega), be_pos (by omega), show 256 / 256 = 1 from rfl, be_pos (x := 1) (by omega), show 1 / 256 = 0 from rfl, be_zero]; rfl
theorem encS_ab : encS ⟨#[97, 98]⟩ = [2, 97, 98] := by rw [encS, show (ByteArray.mk #[97, 98]).size = 2 from rfl, encN_small (by omega)]; rfl

def glL (b : List UInt8) (count most : Int) : List ByteArray := ((gl b count most).getD ([], 0)).1
def glK (b : List UInt8) (count most : Int) : Nat := ((gl b count most).getD ([], 0)).2
def glO (b : List UInt8) (count most : Int) : Bool := (gl b count most).isSome
theorem gl_none {b : List UInt8} {count most : Int} (h : gl b count most = none) : glL b count most = [] ∧ glK b count most = 0 ∧ glO b count most = false := by simp [glL, glK, glO, h]
theorem gl_some {b : List UInt8} {count most : Int} {l : List ByteArray} {k : Nat} (h : gl b count most = some (l, k)) : glL b count most = l ∧ glK b count most = k ∧ glO b count most = true := by simp [glL, glK, glO, h]
theorem gn_not {b : List UInt8} (h : (!gno b) = true) : gn b = none := by
  cases hg : gn b with
  | none => rfl
  | some p => simp [gno, hg] at h
theorem gs_not {b : List UInt8} {most : Int} (h : (!gso b most) = true) : gs b most = none := by
  cases hg : gs b most with
  | none => rfl
  | some p => simp [gso, hg] at h
theorem glk_succ {b : List UInt8} {most : Int} {a k i : Nat} {l : List ByteArray} (h : glk b most a k = some (l, i)) (ho : gso (b.drop i) most = true) : glk b most a (k + 1) = some (l ++ [gss (b.drop i) most], i + gsk (b.drop i) most) := by
  rw [glk, h]
  simp only []
  cases hg : gs (b.drop i) most with
  | none => simp [gso, hg] at ho
  | some p => simp [gss, gsk, hg]
theorem glk_fail {b : List UInt8} {most : Int} {a k i n : Nat} {l : List ByteArray} (h : glk b most a k = some (l, i)) (hn : k < n) (ho : gs (b.drop i) most = none) : glk b most a n = none := by
  have h1 : glk b most a (k + 1) = none := by rw [glk, h]; simp only []; rw [ho]
  have := glk_none h1 (n - (k + 1))
  rwa [show k + 1 + (n - (k + 1)) = n by omega] at this
theorem glk_len {b : List UInt8} {most : Int} {a : Nat} : ∀ {k : Nat} {l : List ByteArray} {i : Nat}, glk b most a k = some (l, i) → a + k ≤ i
  | 0, l, i, h => by simp only [glk] at h; injection h with h; injection h with h1 h2; omega
  | k + 1, l, i, h => by
    rw [glk] at h
    cases h1 : glk b most a k with
    | none => simp [h1] at h
    | some p =>
      obtain ⟨l', i'⟩ := p
      have ih := glk_len h1
      simp only [h1] at h
      cases h2 : gs (b.drop i') most with
      | none => simp [h2] at h
      | some q =>
        obtain ⟨s, j⟩ := q
        have hj := gs_le h2
        simp only [h2] at h
        injection h with h; injection h with e1 e2
        omega
end Go.Plain
