/-
  Own text: plain law of layer 5: a disk as two lists of bytes (what is safe, what stands there), its dirty sectors in order, its power. No program in sight.
-/
set_option linter.unusedVariables false
namespace Go.Plain

/-- c laid over l from place o on. -/
def spl {α : Type} (l : List α) (o : Nat) (c : List α) : List α := l.take o ++ c ++ l.drop (o + c.length)
section
variable {α : Type} {l c a b : List α} {o j : Nat}
theorem spl_len (h : o + c.length ≤ l.length) : (spl l o c).length = l.length := by simp [spl]; omega
theorem spl_nil : spl l o [] = l := by simp [spl]
theorem spl_in {d : α} (h : o + c.length ≤ l.length) (h1 : o ≤ j) (h2 : j < o + c.length) : (spl l o c).getD j d = c.getD (j - o) d := by
  simp only [spl, List.getD]
  rw [List.append_assoc, List.getElem?_append_right (by rw [List.length_take]; omega), List.length_take, Nat.min_eq_left (by omega), List.getElem?_append_left (by omega)]
theorem spl_out {d : α} (h : o + c.length ≤ l.length) (h1 : j < o ∨ o + c.length ≤ j) : (spl l o c).getD j d = l.getD j d := by
  simp only [spl, List.getD]
  rcases h1 with h1 | h1
  · rw [List.append_assoc, List.getElem?_append_left (by rw [List.length_take]; omega), List.getElem?_take, if_pos h1]
  · rw [List.getElem?_append_right (by rw [List.length_append, List.length_take]; omega), List.length_append, List.length_take, Nat.min_eq_left (by omega), List.getElem?_drop, show o + c.length + (j - (o + c.length)) = j by omega]
theorem ext_getD {d : α} (hl : a.length = b.length) (h : ∀ j, j < a.length → a.getD j d = b.getD j d) : a = b := by
  apply List.ext_getElem hl
  intro i h1 h2
  have := h i h1
  simpa [List.getD, List.getElem?_eq_getElem h1, List.getElem?_eq_getElem h2] using this
theorem spl_spl [Inhabited α] (h : o + a.length + b.length ≤ l.length) : spl (spl l o a) (o + a.length) b = spl l o (a ++ b) := by
  have e1 := spl_len (l := l) (o := o) (c := a) (by omega)
  have e2 := spl_len (l := spl l o a) (o := o + a.length) (c := b) (by omega)
  have e3 := spl_len (l := l) (o := o) (c := a ++ b) (by rw [List.length_append]; omega)
  refine ext_getD (d := default) (by omega) fun j hj => ?_
  by_cases h1 : o + a.length ≤ j ∧ j < o + a.length + b.length
  · rw [spl_in (by omega) h1.1 h1.2, spl_in (by rw [List.length_append]; omega) (by omega) (by rw [List.length_append]; omega), List.getD, List.getD, List.getElem?_append_right (by omega), show j - o - a.length = j - (o + a.length) by omega]
  · rw [spl_out (by omega) (by omega)]
    by_cases h2 : o ≤ j ∧ j < o + a.length
    · rw [spl_in (by omega) h2.1 h2.2, spl_in (by rw [List.length_append]; omega) (by omega) (by rw [List.length_append]; omega), List.getD, List.getD, List.getElem?_append_left (by omega)]
    · rw [spl_out (by omega) (by omega), spl_out (by rw [List.length_append]; omega) (by rw [List.length_append]; omega)]
end
/-- A sector. -/
def sec (l : List UInt8) (i : Nat) : List UInt8 := (l.drop (32 * i)).take 32
theorem sec_len {l : List UInt8} {i n : Nat} (hl : l.length = 32 * n) (hi : i < n) : (sec l i).length = 32 := by simp [sec]; omega
theorem sec_get {l : List UInt8} {i j : Nat} (hj : j < 32) : (sec l i).getD j 0 = l.getD (32 * i + j) 0 := by
  simp only [sec, List.getD]
  rw [List.getElem?_take, if_pos hj, List.getElem?_drop]
theorem sec_eq {l m : List UInt8} {i n : Nat} (hl : l.length = 32 * n) (hm : m.length = 32 * n) (hi : i < n) : sec l i = sec m i ↔ ∀ j, 32 * i ≤ j → j < 32 * i + 32 → l.getD j 0 = m.getD j 0 := by
  constructor
  · intro h j h1 h2
    have e : (sec l i).getD (j - 32 * i) 0 = (sec m i).getD (j - 32 * i) 0 := by rw [h]
    rw [sec_get (by omega), sec_get (by omega), show 32 * i + (j - 32 * i) = j by omega] at e
    exact e
  · intro h
    refine ext_getD (d := 0) (by rw [sec_len hl hi, sec_len hm hi]) fun j hj => ?_
    rw [sec_len hl hi] at hj
    rw [sec_get hj, sec_get hj]
    exact h _ (by omega) (by omega)
theorem all_sec {l m : List UInt8} {n : Nat} (hl : l.length = 32 * n) (hm : m.length = 32 * n) (h : ∀ i, i < n → sec l i = sec m i) : l = m := by
  refine ext_getD (d := 0) (by omega) fun j hj => ?_
  exact (sec_eq hl hm (i := j / 32) (by omega)).1 (h _ (by omega)) j (by omega) (by omega)
theorem sec_spl_same {l c : List UInt8} {i n : Nat} (hl : l.length = 32 * n) (hi : i < n) (hc : c.length = 32) : sec (spl l (32 * i) c) i = c := by
  have e := spl_len (l := l) (o := 32 * i) (c := c) (by omega)
  refine ext_getD (d := 0) (by rw [sec_len (by omega) hi, hc]) fun j hj => ?_
  rw [sec_len (by omega) hi] at hj
  rw [sec_get hj, spl_in (by omega) (by omega) (by omega), show 32 * i + j - 32 * i = j by omega]
theorem sec_spl_other {l c : List UInt8} {k n o : Nat} (hl : l.length = 32 * n) (hk : k < n) (ho : o + c.length ≤ l.length) (hne : 32 * k + 32 ≤ o ∨ o + c.length ≤ 32 * k) : sec (spl l o c) k = sec l k := by
  have e := spl_len (l := l) (o := o) (c := c) ho
  refine (sec_eq (by omega) hl hk).2 fun j h1 h2 => ?_
  rw [spl_out ho (by omega)]
theorem sec_spl_part {l c : List UInt8} {i n r : Nat} (hl : l.length = 32 * n) (hi : i < n) (hc : r + c.length ≤ 32) : sec (spl l (32 * i + r) c) i = spl (sec l i) r c := by
  have e := spl_len (l := l) (o := 32 * i + r) (c := c) (by omega)
  have e2 := sec_len hl hi
  have e3 := spl_len (l := sec l i) (o := r) (c := c) (by omega)
  refine ext_getD (d := 0) (by rw [sec_len (by omega) hi]; omega) fun j hj => ?_
  rw [sec_len (by omega) hi] at hj
  rw [sec_get hj]
  by_cases h : r ≤ j ∧ j < r + c.length
  · rw [spl_in (by omega) (by omega) (by omega), spl_in (by omega) (by omega) (by omega), show 32 * i + j - (32 * i + r) = j - r by omega]
  · rw [spl_out (by omega) (by omega), spl_out (by omega) (by omega), sec_get hj]
/-- Sectors i, i + 1, .. are dirty, m of them. -/
def touch (ord : List Nat) (i : Nat) : Nat → List Nat
  | 0 => ord
  | m + 1 => if i + m ∈ touch ord i m then touch ord i m else touch ord i m ++ [i + m]
theorem mem_touch {ord : List Nat} {i k : Nat} : ∀ {m : Nat}, k ∈ touch ord i m ↔ k ∈ ord ∨ (i ≤ k ∧ k < i + m)
  | 0 => by simp [touch]; omega
  | m + 1 => by
    have ih := mem_touch (ord := ord) (i := i) (k := k) (m := m)
    rw [touch]
    split
    · rename_i h
      rw [ih]
      have ih2 := mem_touch (ord := ord) (i := i) (k := i + m) (m := m)
      rw [ih2] at h
      constructor
      · rintro (h1 | h1)
        · exact .inl h1
        · exact .inr (by omega)
      · rintro (h1 | h1)
        · exact .inl h1
        · by_cases h2 : k = i + m
          · subst h2
            rcases h with h | h
            · exact .inl h
            · omega
          · exact .inr (by omega)
    · rw [List.mem_append, ih, List.mem_singleton]
      constructor
      · rintro ((h1 | h1) | h1)
        · exact .inl h1
        · exact .inr (by omega)
        · exact .inr (by omega)
      · rintro (h1 | h1)
        · exact .inl (.inl h1)
        · by_cases h2 : k = i + m
          · exact .inr h2
          · exact .inl (.inr (by omega))
theorem nodup_touch {ord : List Nat} {i : Nat} (h : ord.Nodup) : ∀ {m : Nat}, (touch ord i m).Nodup
  | 0 => h
  | m + 1 => by
    have ih := nodup_touch (i := i) h (m := m)
    rw [touch]
    split
    · exact ih
    · rename_i hn
      rw [List.nodup_append]
      exact ⟨ih, by simp, fun a ha b hb e => by simp at hb; subst hb; subst e; exact hn ha⟩
/-- How many sectors j bytes from place at on are in. -/
def cnt (at_ j : Nat) : Nat := if j = 0 then 0 else (at_ + j - 1) / 32 - at_ / 32 + 1

structure DS where
  safe : List UInt8
  now : List UInt8
  ord : List Nat
  off : Bool
  armed : Nat
  keep : List Int
  torn : Int
structure DS.Ok (d : DS) (n : Nat) : Prop where
  s : d.safe.length = 32 * n
  w : d.now.length = 32 * n
  nd : d.ord.Nodup
  lt : ∀ i ∈ d.ord, i < n
  same : ∀ i, i < n → i ∉ d.ord → sec d.now i = sec d.safe i
def newD (n : Nat) : DS := ⟨List.replicate (32 * n) 0, List.replicate (32 * n) 0, [], false, 0, [], 0⟩
theorem newD_ok (n : Nat) : (newD n).Ok n := ⟨by simp [newD], by simp [newD], by simp [newD], by simp [newD], fun i _ _ => rfl⟩
/-- How much of a torn sector is there. -/
def clampT (t : Int) : Nat := (max (min t 32) 0).toNat
theorem clampT_le (t : Int) : clampT t ≤ 32 := by unfold clampT; omega
/-- One dirty sector as the power goes: kept, torn, or lost. -/
def crash1 (now : List UInt8) (keep : List Int) (m : Nat) (p : List UInt8 × Bool) (i : Nat) : List UInt8 × Bool :=
  if (i : Int) ∈ keep then (spl p.1 (32 * i) (sec now i), p.2) else if p.2 then p else (spl p.1 (32 * i) ((sec now i).take m), true)
def crashed (d : DS) (keep : List Int) (torn : Int) : List UInt8 := (d.ord.foldl (crash1 d.now keep (clampT torn)) (d.safe, false)).1
def crash (d : DS) (keep : List Int) (torn : Int) : DS := { d with safe := crashed d keep torn, now := crashed d keep torn, ord := [], off := true, armed := 0 }
def strk (d : DS) : Bool × DS := if d.armed = 0 then (false, d) else if d.armed = 1 then (true, crash d d.keep d.torn) else (false, { d with armed := d.armed - 1 })
/-- Bytes are written. -/
def put (d : DS) (at_ : Nat) (b : List UInt8) : DS := { d with now := spl d.now at_ b, ord := touch d.ord (at_ / 32) (cnt at_ b.length) }
def wrS (n : Nat) (d : DS) (at_ : Int) (b : List UInt8) : Int × DS :=
  if d.off then (7, d) else if at_ < 0 then (2, d) else if at_ > 32 * n ∨ (b.length : Int) > 32 * n - at_ then (6, d) else if b = [] then (0, d)
  else if (strk d).1 then (7, (strk d).2) else (0, put (strk d).2 at_.toNat b)
def rdS (n : Nat) (d : DS) (at_ m : Int) : List UInt8 × Int :=
  if d.off then ([], 7) else if at_ < 0 ∨ m < 0 ∨ at_ > 32 * n ∨ m > 32 * n - at_ then ([], 2) else ((d.now.drop at_.toNat).take m.toNat, 0)
def syS (d : DS) : Int × DS :=
  if d.off then (7, d) else if d.ord = [] then (0, d) else if (strk d).1 then (7, (strk d).2) else (0, { (strk d).2 with safe := (strk d).2.now, ord := [] })
def armS (d : DS) (ops : Int) (keep : List Int) (torn : Int) : DS := { d with armed := (max ops 0).toNat, keep := keep, torn := torn }
def crS (d : DS) (keep : List Int) (torn : Int) : Bool × DS := if d.off then (false, d) else (true, crash d keep torn)
def stS (d : DS) : Bool × DS := if d.off then (true, { d with off := false }) else (false, d)
/-! ### What a crash leaves -/
section
variable {now : List UInt8} {keep : List Int} {m n : Nat}
theorem crash1_len {p : List UInt8 × Bool} {i : Nat} (hw : now.length = 32 * n) (hi : i < n) (hp : p.1.length = 32 * n) : (crash1 now keep m p i).1.length = 32 * n := by
  have h1 := sec_len hw hi
  unfold crash1
  split
  · rw [spl_len (by omega), hp]
  · split
    · exact hp
    · rw [spl_len (by rw [List.length_take]; omega), hp]
theorem fold_len (hw : now.length = 32 * n) : ∀ {l : List Nat} {p : List UInt8 × Bool}, (∀ i ∈ l, i < n) → p.1.length = 32 * n → (l.foldl (crash1 now keep m) p).1.length = 32 * n
  | [], p, _, hp => hp
  | i :: l, p, hl, hp => by
    rw [List.foldl_cons]
    exact fold_len hw (fun j hj => hl j (by simp [hj])) (crash1_len hw (hl i (by simp)) hp)
theorem crash1_out {p : List UInt8 × Bool} {i k : Nat} (hw : now.length = 32 * n) (hi : i < n) (hk : k < n) (hp : p.1.length = 32 * n) (hne : k ≠ i) : sec (crash1 now keep m p i).1 k = sec p.1 k := by
  have h1 := sec_len hw hi
  unfold crash1
  split
  · exact sec_spl_other hp hk (by omega) (by omega)
  · split
    · rfl
    · exact sec_spl_other hp hk (by rw [List.length_take]; omega) (by rw [List.length_take]; omega)
theorem fold_out (hw : now.length = 32 * n) {k : Nat} (hk : k < n) : ∀ {l : List Nat} {p : List UInt8 × Bool}, (∀ i ∈ l, i < n) → p.1.length = 32 * n → k ∉ l → sec (l.foldl (crash1 now keep m) p).1 k = sec p.1 k
  | [], p, _, _, _ => rfl
  | i :: l, p, hl, hp, hn => by
    rw [List.foldl_cons, fold_out hw hk (fun j hj => hl j (by simp [hj])) (crash1_len hw (hl i (by simp)) hp) (fun h => hn (by simp [h])), crash1_out hw (hl i (by simp)) hk hp (fun h => hn (by simp [h]))]
theorem fold_keep (hw : now.length = 32 * n) {k : Nat} (hk : k < n) (hkk : (k : Int) ∈ keep) : ∀ {l : List Nat} {p : List UInt8 × Bool}, (∀ i ∈ l, i < n) → p.1.length = 32 * n → l.Nodup → k ∈ l → sec (l.foldl (crash1 now keep m) p).1 k = sec now k
  | [], _, _, _, _, h => by cases h
  | i :: l, p, hl, hp, hnd, h => by
    rw [List.nodup_cons] at hnd
    rw [List.foldl_cons]
    by_cases hik : k = i
    · subst hik
      rw [fold_out hw hk (fun j hj => hl j (by simp [hj])) (crash1_len hw hk hp) hnd.1]
      unfold crash1
      rw [if_pos hkk]
      exact sec_spl_same hp hk (sec_len hw hk)
    · exact fold_keep hw hk hkk (fun j hj => hl j (by simp [hj])) (crash1_len hw (hl i (by simp)) hp) hnd.2 (by
        rcases List.mem_cons.1 h with h | h
        · exact absurd h hik
        · exact h)
theorem crash1_lost {p : List UInt8 × Bool} {i : Nat} (h : p.2 = true) : (crash1 now keep m p i).2 = true := by
  unfold crash1
  split
  · exact h
  · first | exact h | (rw [if_pos h]; exact h)
theorem fold_lost (hw : now.length = 32 * n) {k : Nat} (hk : k < n) (hkk : (k : Int) ∉ keep) : ∀ {l : List Nat} {p : List UInt8 × Bool}, (∀ i ∈ l, i < n) → p.1.length = 32 * n → p.2 = true → sec (l.foldl (crash1 now keep m) p).1 k = sec p.1 k
  | [], _, _, _, _ => rfl
  | i :: l, p, hl, hp, h => by
    rw [List.foldl_cons, fold_lost hw hk hkk (fun j hj => hl j (by simp [hj])) (crash1_len hw (hl i (by simp)) hp) (crash1_lost h)]
    by_cases hik : k = i
    · subst hik; unfold crash1; rw [if_neg hkk, if_pos h]
    · exact crash1_out hw (hl i (by simp)) hk hp hik
/-- At most one sector is torn. -/
theorem fold_torn (hw : now.length = 32 * n) : ∀ {l : List Nat} {p : List UInt8 × Bool}, (∀ i ∈ l, i < n) → p.1.length = 32 * n → l.Nodup → ∃ t, ∀ k, k < n → (k : Int) ∉ keep → (k ≠ t → sec (l.foldl (crash1 now keep m) p).1 k = sec p.1 k) ∧ (k = t → sec (l.foldl (crash1 now keep m) p).1 k = spl (sec p.1 k) 0 ((sec now k).take m))
  | [], p, _, hp, _ => ⟨n, fun k hk _ => ⟨fun _ => rfl, fun h => by omega⟩⟩
  | i :: l, p, hl, hp, hnd => by
    rw [List.nodup_cons] at hnd
    have hi := hl i (by simp)
    have hp1 := crash1_len (keep := keep) (m := m) hw hi hp
    have hl1 : ∀ j ∈ l, j < n := fun j hj => hl j (by simp [hj])
    by_cases hk : (i : Int) ∈ keep
    · obtain ⟨t, ht⟩ := fold_torn hw (l := l) (p := crash1 now keep m p i) hl1 hp1 hnd.2
      refine ⟨t, fun k hkn hkk => ?_⟩
      have hne : k ≠ i := fun e => hkk (e ▸ hk)
      have := ht k hkn hkk
      rw [crash1_out hw hi hkn hp hne] at this
      exact this
    · by_cases h2 : p.2 = true
      · obtain ⟨t, ht⟩ : ∃ t, n ≤ t := ⟨n, Nat.le_refl _⟩
        refine ⟨t, fun k hkn hkk => ⟨fun _ => fold_lost hw hkn hkk hl hp h2, fun e => by omega⟩⟩
      · refine ⟨i, fun k hkn hkk => ⟨fun hne => ?_, fun e => ?_⟩⟩
        · rw [List.foldl_cons]
          have h3 : (crash1 now keep m p i).2 = true := by unfold crash1; rw [if_neg hk, if_neg h2]
          rw [fold_lost hw hkn hkk hl1 hp1 h3, crash1_out hw hi hkn hp hne]
        · subst e
          rw [List.foldl_cons, fold_out hw hkn hl1 hp1 hnd.1]
          unfold crash1
          rw [if_neg hk, if_neg h2]
          have h4 := sec_spl_part (l := p.1) (i := k) (r := 0) (c := (sec now k).take m) hp hkn (by rw [List.length_take, sec_len hw hkn]; omega)
          simpa using h4
end
theorem crash_ok {d : DS} {n : Nat} (h : d.Ok n) (keep : List Int) (torn : Int) : (crash d keep torn).Ok n :=
  ⟨fold_len h.w h.lt h.s, fold_len h.w h.lt h.s, by simp [crash], by simp [crash], fun i _ _ => rfl⟩
theorem strk_ok {d : DS} {n : Nat} (h : d.Ok n) : (strk d).2.Ok n := by
  unfold strk
  split
  · exact h
  · split
    · exact crash_ok h _ _
    · exact ⟨h.s, h.w, h.nd, h.lt, h.same⟩
theorem cnt_last {a j : Nat} (h : 0 < j) : a / 32 + cnt a j = (a + j - 1) / 32 + 1 := by unfold cnt; rw [if_neg (by omega)]; omega
theorem put_ok {d : DS} {n a : Nat} {b : List UInt8} (h : d.Ok n) (hb : 0 < b.length) (ha : a + b.length ≤ 32 * n) : (put d a b).Ok n := by
  have hc := cnt_last (a := a) hb
  refine ⟨h.s, ?_, nodup_touch h.nd, fun i hi => ?_, fun i hi hn => ?_⟩
  · show (spl d.now a b).length = _
    rw [spl_len (by rw [h.w]; exact ha), h.w]
  · rcases mem_touch.1 hi with h1 | h1
    · exact h.lt i h1
    · omega
  · show sec (spl d.now a b) i = sec d.safe i
    have hn' : i ∉ d.ord ∧ ¬ (a / 32 ≤ i ∧ i < a / 32 + cnt a b.length) := ⟨fun h1 => hn (mem_touch.2 (.inl h1)), fun h1 => hn (mem_touch.2 (.inr h1))⟩
    rw [sec_spl_other h.w hi (by rw [h.w]; exact ha) (by omega)]
    exact h.same i hi hn'.1
/-- All dirty sectors settled: what stands there is safe. -/
theorem settled {now : List UInt8} {n : Nat} (hw : now.length = 32 * n) : ∀ {l : List Nat} {sf : List UInt8}, sf.length = 32 * n → (∀ i ∈ l, i < n) → (∀ i, i < n → i ∉ l → sec now i = sec sf i) → l.foldl (fun s i => spl s (32 * i) (sec now i)) sf = now
  | [], sf, hs, _, h => (all_sec hw hs (fun i hi => h i hi (by simp))).symm
  | i :: l, sf, hs, hl, h => by
    have hi := hl i (by simp)
    have h1 := sec_len hw hi
    rw [List.foldl_cons]
    have hsp : (spl sf (32 * i) (sec now i)).length = 32 * n := by rw [spl_len (by omega), hs]
    refine settled hw hsp (fun j hj => hl j (by simp [hj])) (fun k hk hn => ?_)
    by_cases hki : k = i
    · subst hki; rw [sec_spl_same hs hk h1]
    · rw [sec_spl_other hs hk (by omega) (by omega)]; exact h k hk (by simp [hki, hn])
theorem stS_off {d : DS} (h : d.off = false) : stS d = (false, d) := by unfold stS; rw [h]; rfl
theorem stS_on {d : DS} (h : d.off = true) : stS d = (true, { d with off := false }) := by unfold stS; rw [h]; rfl
theorem crash1_keep {now : List UInt8} {keep : List Int} {m : Nat} {p : List UInt8 × Bool} {i : Nat} (h : (i : Int) ∈ keep) : crash1 now keep m p i = (spl p.1 (32 * i) (sec now i), p.2) := by rw [crash1, if_pos h]
theorem crash1_two {now : List UInt8} {keep : List Int} {m : Nat} {p : List UInt8 × Bool} {i : Nat} (h : ¬ (i : Int) ∈ keep) (h2 : p.2 = true) : crash1 now keep m p i = p := by rw [crash1, if_neg h, if_pos h2]
theorem crash1_torn {now : List UInt8} {keep : List Int} {m : Nat} {p : List UInt8 × Bool} {i : Nat} (h : ¬ (i : Int) ∈ keep) (h2 : p.2 = false) : crash1 now keep m p i = (spl p.1 (32 * i) ((sec now i).take m), true) := by rw [crash1, if_neg h, if_neg (by rw [h2]; decide)]
/-- The first k dirty sectors, as the power goes. -/
def crK (d : DS) (keep : List Int) (torn : Int) (k : Nat) : List UInt8 × Bool := (d.ord.take k).foldl (crash1 d.now keep (clampT torn)) (d.safe, false)
theorem crK_next {d : DS} {keep : List Int} {torn : Int} {k : Nat} (h : k < d.ord.length) : crK d keep torn (k + 1) = crash1 d.now keep (clampT torn) (crK d keep torn k) (d.ord.getD k 0) := by
  rw [crK, crK, List.take_succ_eq_append_getElem h, List.foldl_append]
  simp [List.getD, List.getElem?_eq_getElem h]
theorem crK_all (d : DS) (keep : List Int) (torn : Int) : (crK d keep torn d.ord.length).1 = crashed d keep torn := by rw [crK, List.take_length]; rfl
theorem crK_len {d : DS} {n : Nat} (h : d.Ok n) (keep : List Int) (torn : Int) (k : Nat) : (crK d keep torn k).1.length = 32 * n := fold_len h.w (fun i hi => h.lt i (List.mem_of_mem_take hi)) h.s
theorem drop_head {ord : List Nat} {k : Nat} (h : k < ord.length) : ord.getD k 0 ∈ ord.drop k := by
  have e : ord.getD k 0 = ord[k] := by simp [List.getD, List.getElem?_eq_getElem h]
  rw [e, List.drop_eq_getElem_cons h]; exact List.mem_cons_self
theorem drop_rest {ord : List Nat} {k i : Nat} (h : k < ord.length) (hn : ord.Nodup) (hi : i ∈ ord.drop (k + 1)) : i ∈ ord.drop k ∧ i ≠ ord.getD k 0 := by
  refine ⟨by rw [List.drop_eq_getElem_cons h]; exact List.mem_cons_of_mem _ hi, fun e => ?_⟩
  have h1 : (ord.drop k).Nodup := hn.sublist (List.drop_sublist _ _)
  rw [List.drop_eq_getElem_cons h, List.nodup_cons] at h1
  rw [e] at hi
  simp only [List.getD, List.getElem?_eq_getElem h, Option.getD_some] at hi
  exact h1.1 hi
theorem crS_off {d : DS} {keep : List Int} {torn : Int} (h : d.off = true) : crS d keep torn = (false, d) := by rw [crS, if_pos h]
theorem crS_on {d : DS} {keep : List Int} {torn : Int} (h : d.off = false) : crS d keep torn = (true, crash d keep torn) := by rw [crS, if_neg (by rw [h]; decide)]
theorem nodup_le : ∀ {n : Nat} {l : List Nat}, l.Nodup → (∀ i ∈ l, i < n) → l.length ≤ n
  | 0, l, _, h => by
    rcases l with _ | ⟨x, r⟩
    · exact Nat.le_refl _
    · have := h x (by simp); omega
  | n + 1, l, hn, h => by
    by_cases hm : n ∈ l
    · have h1 := List.length_erase_of_mem hm
      have h2 := nodup_le (n := n) (l := l.erase n) (hn.sublist List.erase_sublist) (fun i hi => by
        have h3 := h i (List.mem_of_mem_erase hi)
        have h4 : i ≠ n := fun e => by
          subst e
          exact List.Nodup.not_mem_erase hn hi
        omega)
      omega
    · have := nodup_le (n := n) (l := l) hn (fun i hi => by
        have h3 := h i hi
        have h4 : i ≠ n := fun e => hm (e ▸ hi)
        omega)
      omega
theorem ord_le {d : DS} {n : Nat} (h : d.Ok n) : d.ord.length ≤ n := nodup_le h.nd h.lt
theorem strk_0 {d : DS} (h : d.armed = 0) : strk d = (false, d) := by rw [strk, if_pos h]
theorem strk_1 {d : DS} (h : d.armed = 1) : strk d = (true, crash d d.keep d.torn) := by rw [strk, if_neg (by omega), if_pos h]
theorem strk_n {d : DS} (h : 1 < d.armed) : strk d = (false, { d with armed := d.armed - 1 }) := by rw [strk, if_neg (by omega), if_neg (by omega)]
theorem strk_ord {d : DS} (h : (strk d).1 = false) : (strk d).2.ord = d.ord ∧ (strk d).2.now = d.now ∧ (strk d).2.off = d.off := by
  unfold strk at h ⊢
  split at h
  · rename_i h0; rw [if_pos h0]; exact ⟨rfl, rfl, rfl⟩
  · rename_i h0
    split at h
    · cases h
    · rename_i h1; rw [if_neg h0, if_neg h1]; exact ⟨rfl, rfl, rfl⟩
theorem armS_max {v : Int} : (if (0 : Int) > v then 0 else v) = (((max v 0).toNat : Nat) : Int) := by split <;> omega
theorem syS_off {d : DS} (h : d.off = true) : syS d = (7, d) := by rw [syS, if_pos h]
theorem syS_none {d : DS} (h : d.off = false) (h2 : d.ord = []) : syS d = (0, d) := by rw [syS, if_neg (by rw [h]; decide), if_pos h2]
theorem syS_strk {d : DS} (h : d.off = false) (h2 : d.ord ≠ []) (h3 : (strk d).1 = true) : syS d = (7, (strk d).2) := by rw [syS, if_neg (by rw [h]; decide), if_neg h2, if_pos h3]
theorem syS_done {d : DS} (h : d.off = false) (h2 : d.ord ≠ []) (h3 : (strk d).1 = false) : syS d = (0, { (strk d).2 with safe := (strk d).2.now, ord := [] }) := by rw [syS, if_neg (by rw [h]; decide), if_neg h2, if_neg (by rw [h3]; decide)]
/-- The first k dirty sectors settled. -/
def seK (d : DS) (k : Nat) : List UInt8 := (d.ord.take k).foldl (fun s i => spl s (32 * i) (sec d.now i)) d.safe
theorem seK_next {d : DS} {k : Nat} (h : k < d.ord.length) : seK d (k + 1) = spl (seK d k) (32 * d.ord.getD k 0) (sec d.now (d.ord.getD k 0)) := by
  rw [seK, seK, List.take_succ_eq_append_getElem h, List.foldl_append]
  simp [List.getD, List.getElem?_eq_getElem h]
theorem seK_len {d : DS} {n : Nat} (h : d.Ok n) : ∀ {k : Nat}, k ≤ d.ord.length → (seK d k).length = 32 * n
  | 0, _ => h.s
  | k + 1, hk => by
    have hi : d.ord.getD k 0 < n := h.lt _ (by simp only [List.getD, List.getElem?_eq_getElem (show k < d.ord.length by omega), Option.getD_some]; exact List.getElem_mem _)
    rw [seK_next (by omega), spl_len (by rw [sec_len h.w hi, seK_len h (by omega)]; omega), seK_len h (by omega)]
theorem seK_all {d : DS} {n : Nat} (h : d.Ok n) : seK d d.ord.length = d.now := by
  rw [seK, List.take_length]
  exact settled h.w h.s h.lt h.same
theorem rd_next {l : List UInt8} {a j q n : Nat} (hl : l.length = 32 * n) (hq : (a + j) % 32 + q ≤ 32) (hi : (a + j) / 32 < n) : (l.drop a).take j ++ ((sec l ((a + j) / 32)).drop ((a + j) % 32)).take q = (l.drop a).take (j + q) := by
  have e : ((sec l ((a + j) / 32)).drop ((a + j) % 32)).take q = ((l.drop a).drop j).take q := by
    rw [sec, List.drop_take, List.drop_drop, List.drop_drop, List.take_take, Nat.min_eq_left (by omega), show 32 * ((a + j) / 32) + (a + j) % 32 = a + j by omega]
  rw [e, ← List.take_add]
theorem rdS_off {n : Nat} {d : DS} {a m : Int} (h : d.off = true) : rdS n d a m = ([], 7) := by rw [rdS, if_pos h]
theorem rdS_bad {n : Nat} {d : DS} {a m : Int} (h : d.off = false) (h2 : a < 0 ∨ m < 0 ∨ a > 32 * n ∨ m > 32 * n - a) : rdS n d a m = ([], 2) := by rw [rdS, if_neg (by rw [h]; decide), if_pos h2]
theorem rdS_good {n : Nat} {d : DS} {a m : Int} (h : d.off = false) (h2 : ¬ (a < 0 ∨ m < 0 ∨ a > 32 * n ∨ m > 32 * n - a)) : rdS n d a m = ((d.now.drop a.toNat).take m.toNat, 0) := by rw [rdS, if_neg (by rw [h]; decide), if_neg h2]
theorem wrS_off {n : Nat} {d : DS} {a : Int} {b : List UInt8} (h : d.off = true) : wrS n d a b = (7, d) := by rw [wrS, if_pos h]
theorem wrS_neg {n : Nat} {d : DS} {a : Int} {b : List UInt8} (h : d.off = false) (h1 : a < 0) : wrS n d a b = (2, d) := by rw [wrS, if_neg (by rw [h]; decide), if_pos h1]
theorem wrS_full {n : Nat} {d : DS} {a : Int} {b : List UInt8} (h : d.off = false) (h1 : ¬ a < 0) (h2 : a > 32 * n ∨ (b.length : Int) > 32 * n - a) : wrS n d a b = (6, d) := by rw [wrS, if_neg (by rw [h]; decide), if_neg h1, if_pos h2]
theorem wrS_nil {n : Nat} {d : DS} {a : Int} {b : List UInt8} (h : d.off = false) (h1 : ¬ a < 0) (h2 : ¬ (a > 32 * n ∨ (b.length : Int) > 32 * n - a)) (h3 : b = []) : wrS n d a b = (0, d) := by rw [wrS, if_neg (by rw [h]; decide), if_neg h1, if_neg h2, if_pos h3]
theorem wrS_strk {n : Nat} {d : DS} {a : Int} {b : List UInt8} (h : d.off = false) (h1 : ¬ a < 0) (h2 : ¬ (a > 32 * n ∨ (b.length : Int) > 32 * n - a)) (h3 : b ≠ []) (h4 : (strk d).1 = true) : wrS n d a b = (7, (strk d).2) := by rw [wrS, if_neg (by rw [h]; decide), if_neg h1, if_neg h2, if_neg h3, if_pos h4]
theorem wrS_done {n : Nat} {d : DS} {a : Int} {b : List UInt8} (h : d.off = false) (h1 : ¬ a < 0) (h2 : ¬ (a > 32 * n ∨ (b.length : Int) > 32 * n - a)) (h3 : b ≠ []) (h4 : (strk d).1 = false) : wrS n d a b = (0, put (strk d).2 a.toNat b) := by rw [wrS, if_neg (by rw [h]; decide), if_neg h1, if_neg h2, if_neg h3, if_neg (by rw [h4]; decide)]
/-- One piece more is written. -/
theorem wr_step {l b : List UInt8} {x j q : Nat} (hx : x + b.length ≤ l.length) (hj : j + q ≤ b.length) : spl l x (b.take (j + q)) = spl (spl l x (b.take j)) (x + j) ((b.drop j).take q) := by
  have h1 : (b.take j).length = j := by rw [List.length_take]; omega
  have h2 : ((b.drop j).take q).length = q := by rw [List.length_take, List.length_drop]; omega
  have := spl_spl (l := l) (o := x) (a := b.take j) (b := (b.drop j).take q) (by omega)
  rw [h1] at this
  rw [this, List.take_add]
theorem wr_len {l b : List UInt8} {x j n : Nat} (hl : l.length = 32 * n) (hx : x + b.length ≤ 32 * n) : (spl l x (b.take j)).length = 32 * n := by
  rw [spl_len (by rw [List.length_take]; omega), hl]
/-- A sector that is not dirty and not yet reached is as it is safe. -/
theorem wr_same {d : DS} {n x j : Nat} {b : List UInt8} (h : d.Ok n) (hx : x + b.length ≤ 32 * n) (hj : j ≤ b.length) (hi : (x + j) / 32 < n) (hm : j = 0 ∨ (x + j) % 32 = 0) (hn : (x + j) / 32 ∉ touch d.ord (x / 32) (cnt x j)) : sec (spl d.now x (b.take j)) ((x + j) / 32) = sec d.safe ((x + j) / 32) := by
  have h1 : (b.take j).length = j := by rw [List.length_take]; omega
  have h2 : (x + j) / 32 ∉ d.ord := fun e => hn (mem_touch.2 (.inl e))
  rcases Nat.eq_zero_or_pos j with h0 | h0
  · subst h0
    rw [List.take_zero, spl_nil]; exact h.same _ hi h2
  · rw [sec_spl_other h.w hi (by rw [h1, h.w]; omega) (by rw [h1]; omega)]
    exact h.same _ hi h2
theorem cnt_at {x j : Nat} (hm : j = 0 ∨ (x + j) % 32 = 0) : x / 32 + cnt x j = (x + j) / 32 := by
  unfold cnt; split <;> omega
theorem cnt_next {x j q : Nat} (hm : j = 0 ∨ (x + j) % 32 = 0) (hq : 0 < q) (hq2 : (x + j) % 32 + q ≤ 32) : cnt x (j + q) = cnt x j + 1 := by
  unfold cnt
  split
  · omega
  · split <;> omega
theorem touch_in {ord : List Nat} {x j q : Nat} (hm : j = 0 ∨ (x + j) % 32 = 0) (hq : 0 < q) (hq2 : (x + j) % 32 + q ≤ 32) (h : (x + j) / 32 ∈ touch ord (x / 32) (cnt x j)) : touch ord (x / 32) (cnt x (j + q)) = touch ord (x / 32) (cnt x j) := by
  rw [cnt_next hm hq hq2, touch, cnt_at hm, if_pos h]
theorem touch_out {ord : List Nat} {x j q : Nat} (hm : j = 0 ∨ (x + j) % 32 = 0) (hq : 0 < q) (hq2 : (x + j) % 32 + q ≤ 32) (h : (x + j) / 32 ∉ touch ord (x / 32) (cnt x j)) : touch ord (x / 32) (cnt x (j + q)) = touch ord (x / 32) (cnt x j) ++ [(x + j) / 32] := by
  rw [cnt_next hm hq hq2, touch, cnt_at hm, if_neg h]
end Go.Plain
