/-
  Own text: plain law of layer 1: what is written is read again; what is read is written again; order. No program in sight.
-/
import Derived.Test.YtkfkdakghjlenaaDoorPlPack
set_option linter.unusedSimpArgs false
set_option linter.unusedVariables false
namespace Go.Plain
open Go.Gx
theorem be_head {x : Nat} : 0 < x → ∃ y t, be x = y :: t ∧ y.toNat ≠ 0 := by
  induction x using Nat.strongRecOn with
  | _ x ih =>
    intro h
    rw [be_pos h]
    by_cases h0 : x / 256 = 0
    · rw [h0, be_zero]
      exact ⟨UInt8.ofNat x, [], rfl, by simp; omega⟩
    · obtain ⟨y, t, e, hy⟩ := ih (x / 256) (by omega) (by omega)
      exact ⟨y, t ++ [UInt8.ofNat x], by rw [e]; rfl, hy⟩
theorem gn_enc {x : Nat} (h : x < 18446744073709551616) (r : List UInt8) : gn (encN x ++ r) = some (x, (encN x).length) := by
  by_cases hx : x < 248
  · rw [encN_small hx]
    have e : (UInt8.ofNat x).toNat = x := by simp; omega
    simp only [gn, List.cons_append, List.nil_append, List.getD_cons_zero, List.length_cons, e]
    rw [if_neg (by omega), if_pos hx]
    rfl
  · obtain ⟨y, t, hb, hy⟩ := be_head (x := x) (by omega)
    have hl := be_len h
    have hv := val_be x
    have hpos : 0 < (be x).length := by rw [hb]; simp
    rw [encN_great (by omega)]
    have e : (UInt8.ofNat (247 + (be x).length)).toNat = 247 + (be x).length := by simp; omega
    have e1 : (be x ++ r).take (247 + (be x).length - 247) = be x := by rw [show 247 + (be x).length - 247 = (be x).length by omega, List.take_left']; rfl
    have e2 : (UInt8.ofNat (247 + (be x).length) :: (be x ++ r)).getD 1 0 = y := by rw [hb]; rfl
    simp only [gn, List.cons_append, List.getD_cons_zero, List.length_cons, e, List.drop_succ_cons, List.drop_zero, e1, hv, e2]
    rw [if_neg (by omega), if_neg (by omega), if_neg (by rw [List.length_append]; omega), if_neg (by omega)]
    simp; omega
theorem ofNat_toNat (x : UInt8) : UInt8.ofNat x.toNat = x := by simp
theorem enc_gn {b : List UInt8} {n k : Nat} (h : gn b = some (n, k)) : encN n = b.take k := by
  unfold gn at h
  rcases b with _ | ⟨x, t⟩
  · simp at h
  · simp only [List.getD_cons_zero, List.length_cons, List.drop_succ_cons, List.drop_zero] at h
    rw [if_neg (by omega)] at h
    have hx8 := x.toNat_lt
    split at h
    · injection h with h; injection h with h1 h2
      subst h1 h2
      rw [encN_small (by assumption), ofNat_toNat]; rfl
    · split at h
      · cases h
      · rename_i h1 h2
        split at h
        · cases h
        · rename_i h3
          have h4 := congrArg (fun o => (o.getD (0, 0)).1) h
          have h5 := congrArg (fun o => (o.getD (0, 0)).2) h
          simp only [Option.getD_some] at h4 h5
          rw [← h4, ← h5]
          have hlen : (t.take (x.toNat - 247)).length = x.toNat - 247 := by rw [List.length_take]; omega
          have hv : be (val (t.take (x.toNat - 247))) = t.take (x.toNat - 247) := be_val (fun y r e => by
            rcases t with _ | ⟨z, t⟩
            · rw [List.take_nil] at e; cases e
            · rw [show x.toNat - 247 = (x.toNat - 248) + 1 by omega, List.take_succ_cons] at e
              injection e with e1 _
              subst e1
              intro hz
              apply h2; right
              simp [List.getD, hz])
          rw [encN_great (by omega), hv, hlen, show 247 + (x.toNat - 247) = x.toNat by omega, ofNat_toNat, show 1 + (x.toNat - 247) = (x.toNat - 247) + 1 by omega, List.take_succ_cons]
theorem gs_enc {s : ByteArray} {most : Int} (hm : s.size ≤ most.toNat) (h : s.size < 18446744073709551616) (r : List UInt8) : gs (encS s ++ r) most = some (s.data.toList, (encS s).length) := by
  have e : s.data.toList.length = s.size := Array.length_toList
  unfold gs
  rw [encS, List.append_assoc, gn_enc h]
  simp only []
  rw [if_neg (by rw [List.length_append, List.length_append]; omega), List.drop_left', List.take_left' e, List.length_append, e]
  rfl
theorem enc_gs {b l : List UInt8} {most : Int} {k : Nat} (h : gs b most = some (l, k)) : encN l.length ++ l = b.take k := by
  unfold gs at h
  cases hg : gn b with
  | none => simp [hg] at h
  | some p =>
    obtain ⟨n, j⟩ := p
    have hj := (gn_le hg).1
    simp only [hg] at h
    split at h
    · cases h
    · injection h with h; injection h with h1 h2
      subst h1 h2
      have hl : ((b.drop j).take n).length = n := by rw [List.length_take, List.length_drop]; omega
      rw [hl, enc_gn hg, List.take_add]
theorem encS_mk (l : List UInt8) : encS ⟨l.toArray⟩ = encN l.length ++ l := by simp [encS, ByteArray.size]
theorem encL_eq (q : List ByteArray) : encL q = encN q.length ++ (q.map encS).flatten := by rw [encL, encP, List.take_length]
theorem encL_at {q : List ByteArray} {k : Nat} (hk : k ≤ q.length) : encL q = encP q k ++ ((q.drop k).map encS).flatten := by
  rw [encL_eq, encP, List.append_assoc, ← List.flatten_append, ← List.map_append, List.take_append_drop]
theorem glk_enc {q : List ByteArray} {most : Int} (hs : ∀ s ∈ q, s.size ≤ most.toNat ∧ s.size < 18446744073709551616) (r : List UInt8) : ∀ {k : Nat}, k ≤ q.length → glk (encL q ++ r) most (encN q.length).length k = some (q.take k, (encP q k).length)
  | 0, _ => by simp [glk, encP]
  | k + 1, hk => by
    have ih := glk_enc hs r (k := k) (by omega)
    have hd : (encL q ++ r).drop (encP q k).length = encS q[k] ++ (((q.drop (k + 1)).map encS).flatten ++ r) := by
      rw [encL_at (q := q) (k := k) (by omega), List.append_assoc, List.drop_left' rfl, List.drop_eq_getElem_cons (by omega), List.map_cons, List.flatten_cons, List.append_assoc]
    have hm := hs q[k] (List.getElem_mem _)
    rw [glk, ih]
    simp only []
    rw [hd, gs_enc hm.1 hm.2]
    simp only []
    have e1 : encP q (k + 1) = encP q k ++ encS q[k] := by
      have := encP_succ (q := q) (k := k) (by omega)
      rwa [show q.getD k ByteArray.empty = q[k] by simp [List.getD, List.getElem?_eq_getElem (show k < q.length by omega)]] at this
    rw [e1, List.length_append, List.take_succ_eq_append_getElem (by omega)]
theorem gl_enc {q : List ByteArray} {count most : Int} (hc : q.length ≤ count.toNat) (hq : q.length < 18446744073709551616) (hs : ∀ s ∈ q, s.size ≤ most.toNat ∧ s.size < 18446744073709551616) (r : List UInt8) : gl (encL q ++ r) count most = some (q, (encL q).length) := by
  have e := glk_enc hs r (Nat.le_refl q.length)
  rw [encP_all, List.take_length] at e
  unfold gl
  rw [show gn (encL q ++ r) = some (q.length, (encN q.length).length) by rw [encL_eq, List.append_assoc, gn_enc hq]]
  simp only []
  rw [if_neg (by omega), e]
theorem gl_few {q : List ByteArray} {count most : Int} (hc : count.toNat < q.length) (hq : q.length < 18446744073709551616) : gl (encL q) count most = none := by
  unfold gl
  rw [show gn (encL q) = some (q.length, (encN q.length).length) by rw [encL_eq, gn_enc hq]]
  simp only []
  rw [if_pos hc]
theorem enc_glk {b : List UInt8} {most : Int} {n a : Nat} (hg : gn b = some (n, a)) : ∀ {k : Nat} {l : List ByteArray} {i : Nat}, glk b most a k = some (l, i) → encN n ++ (l.map encS).flatten = b.take i ∧ ∀ s ∈ l, s.size ≤ most.toNat
  | 0, l, i, h => by
    simp only [glk] at h; injection h with h; injection h with h1 h2; subst h1 h2
    simp [enc_gn hg]
  | k + 1, l, i, h => by
    rw [glk] at h
    cases h1 : glk b most a k with
    | none => simp [h1] at h
    | some p =>
      obtain ⟨l', i'⟩ := p
      obtain ⟨ih1, ih2⟩ := enc_glk hg h1
      simp only [h1] at h
      cases h2 : gs (b.drop i') most with
      | none => simp [h2] at h
      | some q =>
        obtain ⟨s, j⟩ := q
        have hj := gs_le h2
        have he := enc_gs h2
        simp only [h2] at h
        injection h with h; injection h with e1 e2
        subst e1 e2
        refine ⟨?_, fun x hx => ?_⟩
        · rw [List.map_append, List.flatten_append, ← List.append_assoc, ih1]
          simp only [List.map_cons, List.map_nil, List.flatten_cons, List.flatten_nil, List.append_nil]
          rw [encS_mk, he, ← List.take_add]
        · rcases List.mem_append.1 hx with hx | hx
          · exact ih2 x hx
          · simp only [List.mem_singleton] at hx; subst hx
            simpa [ByteArray.size] using hj.2.2.2
theorem enc_gl {b : List UInt8} {count most : Int} {l : List ByteArray} {k : Nat} (h : gl b count most = some (l, k)) : encL l = b.take k ∧ l.length ≤ count.toNat ∧ (∀ s ∈ l, s.size ≤ most.toNat) ∧ k ≤ b.length ∧ l.length < 18446744073709551616 := by
  unfold gl at h
  cases hg : gn b with
  | none => simp [hg] at h
  | some p =>
    obtain ⟨n, a⟩ := p
    have hj := gn_le hg
    simp only [hg] at h
    split at h
    · cases h
    · have h1 := glk_at hj.1 h
      have h2 := enc_glk hg h
      refine ⟨by rw [encL_eq, h1.2.1, h2.1], by omega, h2.2, h1.1, by omega⟩
theorem gl_short {q : List ByteArray} {count most : Int} (hc : q.length ≤ count.toNat) (hq : q.length < 18446744073709551616) (hs : ∀ s ∈ q, s.size ≤ most.toNat) (hm : most.toNat < 18446744073709551616) {j : Nat} (hj : j < (encL q).length) : gl ((encL q).take j) count most = none := by
  cases h : gl ((encL q).take j) count most with
  | none => rfl
  | some p =>
    obtain ⟨l, k⟩ := p
    obtain ⟨h1, h2, h3, h4, h5⟩ := enc_gl h
    have hs' : ∀ s ∈ q, s.size ≤ most.toNat ∧ s.size < 18446744073709551616 := fun s hx => ⟨hs s hx, Nat.lt_of_le_of_lt (hs s hx) hm⟩
    have hs2 : ∀ s ∈ l, s.size ≤ most.toNat ∧ s.size < 18446744073709551616 := fun s hx => ⟨h3 s hx, Nat.lt_of_le_of_lt (h3 s hx) hm⟩
    have e1 := gl_enc hc hq hs' []
    rw [List.append_nil] at e1
    rw [List.length_take] at h4
    have e2 : encL q = encL l ++ (encL q).drop k := by
      rw [h1, List.take_take, Nat.min_eq_left (by omega), List.take_append_drop]
    have e3 := gl_enc h2 h5 hs2 ((encL q).drop k)
    rw [← e2, e1] at e3
    injection e3 with e3; injection e3 with e4 e5
    have : (encL l).length = k := by rw [h1, List.length_take, List.length_take]; omega
    omega
theorem lstSz_eq (q : List ByteArray) : lstSz q = 9 + tot q + 9 * q.length := by
  unfold lstSz tot
  induction q with
  | nil => rfl
  | cons s q ih => simp only [List.map_cons, List.sum_cons, List.length_cons]; omega
theorem size_tot {q : List ByteArray} {s : ByteArray} (h : s ∈ q) : s.size ≤ tot q := by
  unfold tot
  induction q with
  | nil => cases h
  | cons x q ih =>
    rw [List.map_cons, List.sum_cons]
    rcases List.mem_cons.1 h with rfl | h
    · omega
    · have := ih h; omega
theorem encN_inj {n m : Nat} (hn : n < 18446744073709551616) (hm : m < 18446744073709551616) (h : encN n = encN m) : n = m := by
  have h1 := gn_enc hn []
  rw [h, gn_enc hm] at h1
  injection h1 with h1; injection h1 with h1 _; exact h1.symm
theorem encL_inj {p q : List ByteArray} (hp : lightB p = true) (hq : lightB q = true) (h : encL p = encL q) : p = q := by
  have lp := light_is hp; have lq := light_is hq
  have h1 := gl_enc (count := 300) (most := 4000) (q := p) lp.1 (by omega) (fun s hs => by have := size_tot hs; simp; omega) []
  have h2 := gl_enc (count := 300) (most := 4000) (q := q) lq.1 (by omega) (fun s hs => by have := size_tot hs; simp; omega) []
  rw [h, h2] at h1
  injection h1 with h1; injection h1 with h1 _; exact h1.symm
/-! ### Order -/
theorem val_cons (x : UInt8) (l : List UInt8) : val (x :: l) = x.toNat * 256 ^ l.length + val l := by
  induction l using snoc_ind with
  | h0 => simp [val]
  | h1 l y ih =>
    rw [← List.cons_append, val_snoc, ih, val_snoc, List.length_append, List.length_singleton, Nat.pow_succ, Nat.add_mul, Nat.mul_assoc]; omega
theorem less_val : ∀ {x y : List UInt8}, x.length = y.length → Op.bytesLess x y = decide (val x < val y)
  | [], [], _ => rfl
  | a :: x, b :: y, h => by
    have hl : x.length = y.length := by simpa using h
    have ih := less_val hl
    have hx := val_lt x
    have hy := val_lt y
    rw [hl] at hx
    rw [val_cons, val_cons, hl, Op.bytesLess, ih]
    rcases Nat.lt_trichotomy a.toNat b.toNat with hc | hc | hc
    · have h1 : decide (a < b) = true := decide_eq_true (UInt8.lt_iff_toNat_lt.2 hc)
      have h2 : (a.toNat + 1) * 256 ^ y.length ≤ b.toNat * 256 ^ y.length := Nat.mul_le_mul_right _ hc
      rw [Nat.add_mul] at h2
      rw [h1, Bool.true_or]
      exact (decide_eq_true (by omega)).symm
    · have h1 : a = b := UInt8.toNat_inj.1 hc
      subst h1
      have h2 : decide (a < a) = false := decide_eq_false (fun h => by have := UInt8.lt_iff_toNat_lt.1 h; omega)
      rw [h2, beq_self_eq_true, Bool.false_or, Bool.true_and]
      exact decide_eq_decide.2 (by omega)
    · have h1 : decide (a < b) = false := decide_eq_false (fun h => by have := UInt8.lt_iff_toNat_lt.1 h; omega)
      have h2 : (a == b) = false := by
        apply beq_eq_false_iff_ne.2
        intro e; subst e; omega
      have h3 : (b.toNat + 1) * 256 ^ y.length ≤ a.toNat * 256 ^ y.length := Nat.mul_le_mul_right _ hc
      rw [Nat.add_mul] at h3
      rw [h1, h2, Bool.false_or, Bool.false_and]
      exact (decide_eq_false (by omega)).symm
theorem be_low {x : Nat} (h : 0 < x) : 256 ^ ((be x).length - 1) ≤ x := by
  obtain ⟨y, t, e, hy⟩ := be_head h
  have hv := val_be x
  rw [e, val_cons] at hv
  rw [e, List.length_cons, Nat.add_sub_cancel]
  have : 1 * 256 ^ t.length ≤ y.toNat * 256 ^ t.length := Nat.mul_le_mul_right _ (by omega)
  omega
theorem less_head {a b : UInt8} {x y : List UInt8} (h : a.toNat < b.toNat) : Op.bytesLess (a :: x) (b :: y) = true := by
  rw [Op.bytesLess, decide_eq_true (UInt8.lt_iff_toNat_lt.2 h), Bool.true_or]
theorem less_head' {a b : UInt8} {x y : List UInt8} (h : b.toNat < a.toNat) : Op.bytesLess (a :: x) (b :: y) = false := by
  rw [Op.bytesLess, decide_eq_false (fun h' => by have := UInt8.lt_iff_toNat_lt.1 h'; omega), show (a == b) = false from beq_eq_false_iff_ne.2 (fun e => by subst e; omega)]
  rfl
theorem less_same {a : UInt8} {x y : List UInt8} : Op.bytesLess (a :: x) (a :: y) = Op.bytesLess x y := by
  rw [Op.bytesLess, decide_eq_false (fun h' => by have := UInt8.lt_iff_toNat_lt.1 h'; omega), beq_self_eq_true]
  simp
theorem be_mono {n m : Nat} (hn : 0 < n) (h : (be n).length < (be m).length) : n < m := by
  have h1 := val_lt (be n)
  rw [val_be] at h1
  have hm : 0 < m := by
    rcases Nat.eq_zero_or_pos m with h0 | h0
    · subst h0; rw [be_zero] at h; simp at h
    · exact h0
  have h2 := be_low hm
  have h3 : 256 ^ (be n).length ≤ 256 ^ ((be m).length - 1) := Nat.pow_le_pow_right (by omega) (by omega)
  omega
theorem less_enc {n m : Nat} (hn : n < 18446744073709551616) (hm : m < 18446744073709551616) : Op.bytesLess (encN n) (encN m) = decide (n < m) := by
  have ln := be_len hn
  have lm := be_len hm
  by_cases h1 : n < 248
  · rw [encN_small h1]
    have e1 : (UInt8.ofNat n).toNat = n := by simp; omega
    by_cases h2 : m < 248
    · rw [encN_small h2]
      have := less_val (x := [UInt8.ofNat n]) (y := [UInt8.ofNat m]) rfl
      rw [this]
      have e2 : (UInt8.ofNat m).toNat = m := by simp; omega
      rw [val_cons, val_cons, e1, e2]
      simp [val]
    · rw [encN_great (by omega)]
      have e2 : (UInt8.ofNat (247 + (be m).length)).toNat = 247 + (be m).length := by simp; omega
      obtain ⟨y, t, hb, _⟩ := be_head (x := m) (by omega)
      have : 0 < (be m).length := by rw [hb]; simp
      rw [less_head (by omega)]
      exact (decide_eq_true (by omega)).symm
  · rw [encN_great (by omega)]
    have e1 : (UInt8.ofNat (247 + (be n).length)).toNat = 247 + (be n).length := by simp; omega
    obtain ⟨y, t, hb, _⟩ := be_head (x := n) (by omega)
    have hp : 0 < (be n).length := by rw [hb]; simp
    by_cases h2 : m < 248
    · rw [encN_small h2]
      have e2 : (UInt8.ofNat m).toNat = m := by simp; omega
      rw [less_head' (by omega)]
      exact (decide_eq_false (by omega)).symm
    · rw [encN_great (by omega)]
      have e2 : (UInt8.ofNat (247 + (be m).length)).toNat = 247 + (be m).length := by simp; omega
      rcases Nat.lt_trichotomy (be n).length (be m).length with hc | hc | hc
      · rw [less_head (by omega)]
        exact (decide_eq_true (be_mono (by omega) hc)).symm
      · rw [hc, less_same, less_val hc, val_be, val_be]
      · rw [less_head' (by omega)]
        have := be_mono (n := m) (m := n) (by omega) hc
        exact (decide_eq_false (by omega)).symm
/-! ### What a reading is, written again -/
theorem once_n {b : List UInt8} (h : gno b = true) : encN (gnv b) = b.take (gnk b) := enc_gn (gn_of h)
theorem gs_of {b : List UInt8} {most : Int} (h : gso b most = true) : ∃ l k, gs b most = some (l, k) := by
  unfold gso at h
  cases hg : gs b most with
  | none => simp [hg] at h
  | some p => exact ⟨p.1, p.2, rfl⟩
theorem once_s {b : List UInt8} {most : Int} (h : gso b most = true) : encS (gss b most) = b.take (gsk b most) := by
  obtain ⟨l, k, hg⟩ := gs_of h
  obtain ⟨e1, e2, _⟩ := gs_some hg
  rw [e1, e2, encS_mk, enc_gs hg]
theorem once_l {b : List UInt8} {count most : Int} (h : glO b count most = true) : encL (glL b count most) = b.take (glK b count most) := by
  unfold glO at h
  cases hg : gl b count most with
  | none => simp [hg] at h
  | some p =>
    obtain ⟨e1, e2, _⟩ := gl_some (l := p.1) (k := p.2) hg
    rw [e1, e2, (enc_gl (l := p.1) (k := p.2) hg).1]
theorem no_s {b : List UInt8} {most : Int} (h : gno b = false) : gso b most = false := by
  have : gn b = none := gn_not (by rw [h]; rfl)
  unfold gso gs; rw [this]; rfl
theorem no_l {b : List UInt8} {count most : Int} (h : gno b = false) : glO b count most = false := by
  have : gn b = none := gn_not (by rw [h]; rfl)
  unfold glO gl; rw [this]; rfl
theorem gl_sizes {b : List UInt8} {count most : Int} : (glL b count most).length ≤ count.toNat ∧ (glK b count most) ≤ b.length ∧ (encL (glL b count most)).length ≤ b.length + 1 ∧ lstSz (glL b count most) ≤ 9 + 10 * b.length := by
  cases hg : gl b count most with
  | none =>
    obtain ⟨e1, e2, _⟩ := gl_none hg
    rw [e1, e2]
    simp [encL_eq, encN_small, lstSz]
  | some p =>
    obtain ⟨e1, e2, _⟩ := gl_some (l := p.1) (k := p.2) hg
    obtain ⟨h1, h2, h3, h4, h5⟩ := enc_gl (l := p.1) (k := p.2) hg
    rw [e1, e2]
    have hl : (encL p.1).length ≤ b.length := by rw [h1, List.length_take]; omega
    refine ⟨h2, h4, by omega, ?_⟩
    rw [lstSz_eq]
    have key : ∀ q : List ByteArray, tot q + q.length ≤ ((q.map encS).flatten).length := by
      intro q
      induction q with
      | nil => simp [tot]
      | cons s q ih =>
        have := encN_pos s.size
        have e : s.data.toList.length = s.size := Array.length_toList
        unfold tot at ih ⊢
        simp only [List.map_cons, List.sum_cons, List.length_cons, List.flatten_cons, List.length_append, encS, e] at ih ⊢
        omega
    have := key p.1
    rw [encL_eq, List.length_append] at hl
    have := encN_pos p.1.length
    omega
end Go.Plain
namespace Go.Plain
open Go.Gx
theorem str_eq_dec (a b : List UInt8) : ((str a).toList == (str b).toList) = decide (a = b) := by
  rw [str_toList, str_toList]
  by_cases h : a = b
  · subst h; simp
  · rw [decide_eq_false h]; exact beq_eq_false_iff_ne.2 h
theorem apart_eq {x y : Nat} (hx : x < 18446744073709551616) (hy : y < 18446744073709551616) : (((str ([] ++ encN x)).toList == (str ([] ++ encN y)).toList) == decide ((x : Int) = (y : Int))) = true := by
  rw [str_eq_dec, List.nil_append, List.nil_append, beq_iff_eq]
  refine decide_eq_decide.2 ⟨fun h => by rw [encN_inj hx hy h], fun h => by rw [show x = y by omega]⟩
theorem apart_lt {x y : Nat} (hx : x < 18446744073709551616) (hy : y < 18446744073709551616) : (Op.bytesLess (str ([] ++ encN x)).toList (str ([] ++ encN y)).toList == decide ((x : Int) < (y : Int))) = true := by
  rw [str_toList, str_toList, List.nil_append, List.nil_append, less_enc hx hy, beq_iff_eq]
  exact decide_eq_decide.2 (by omega)
theorem apart_l {p q : List ByteArray} (hp : lightB p = true) (hq : lightB q = true) : (((str ([] ++ encL p)).toList == (str ([] ++ encL q)).toList) == decide (p = q)) = true := by
  rw [str_eq_dec, List.nil_append, List.nil_append, beq_iff_eq]
  exact decide_eq_decide.2 ⟨fun h => encL_inj hp hq h, fun h => by rw [h]⟩
theorem back_l {q : List ByteArray} (h : q.length ≤ 300 ∧ q.length + tot q ≤ 4000) (r : List UInt8) : gl (encL q ++ r) 300 4000 = some (q, (encL q).length) :=
  gl_enc h.1 (by omega) (fun s hs => by have := size_tot hs; simp; omega) r
theorem encL_le (q : List ByteArray) (h : q.length + tot q ≤ 4000) : (encL q).length ≤ lstSz q := by
  have key : ∀ q : List ByteArray, (∀ s ∈ q, s.size ≤ 4000) → ((q.map encS).flatten).length ≤ tot q + 9 * q.length := by
    intro q
    induction q with
    | nil => simp [tot]
    | cons s q ih =>
      intro hs
      have h1 := ih (fun x hx => hs x (by simp [hx]))
      have h2 := encN_len (x := s.size) (by have := hs s (by simp); omega)
      have e : s.data.toList.length = s.size := Array.length_toList
      unfold tot at h1 ⊢
      simp only [List.map_cons, List.sum_cons, List.length_cons, List.flatten_cons, List.length_append, encS, e] at h1 ⊢
      omega
  have h1 := key q (fun s hs => by have := size_tot hs; omega)
  have h2 := encN_len (x := q.length) (by omega)
  rw [encL_eq, lstSz_eq, List.length_append]
  omega
end Go.Plain
namespace Go.Plain
open Go.Gx
theorem encL_pos (q : List ByteArray) : 0 < (encL q).length := by
  rw [encL_eq, List.length_append]
  have := encN_pos q.length
  omega
theorem back_short {q : List ByteArray} (h : q.length ≤ 300 ∧ q.length + tot q ≤ 4000) : gl (((([] ++ encL q) : List UInt8).drop 0).take ((encL q).length - 1)) 300 4000 = none := by
  have := encL_pos q
  rw [List.nil_append, List.drop_zero]
  exact gl_short h.1 (by omega) (fun s hs => by have := size_tot hs; simp; omega) (by simp) (by omega)
theorem back_few {q : List ByteArray} {l : Nat} (h : q.length ≤ 300 ∧ q.length + tot q ≤ 4000) (hl : q.length = l) : (glO ([] ++ encL q) ((l : Int) - 1) 4000 == decide ((l : Int) = 0)) = true := by
  subst hl
  rw [List.nil_append, beq_iff_eq]
  by_cases h0 : q.length = 0
  · have e : q = [] := List.eq_nil_of_length_eq_zero h0
    subst e
    have := gl_enc (q := []) (count := -1) (most := 4000) (by simp) (by simp) (by simp) []
    rw [List.append_nil] at this
    rw [show ((([] : List ByteArray).length : Int) - 1) = -1 from rfl, (gl_some this).2.2]
    rfl
  · rw [(gl_none (gl_few (q := q) (count := (q.length : Int) - 1) (most := 4000) (by omega) (by omega))).2.2]
    exact (decide_eq_false (by omega)).symm
end Go.Plain
namespace Go.Plain
open Go.Gx
theorem str_app (a b : List UInt8) : str (a ++ b) = str a ++ str b := by
  apply ByteArray.ext
  simp [str]
theorem behind_ne (b e : List UInt8) : (!((str (([] ++ b) ++ e)).toList == (str b ++ str ([] ++ e)).toList)) = false := by
  rw [List.nil_append, List.nil_append, str_app, beq_self_eq_true]; rfl
end Go.Plain
