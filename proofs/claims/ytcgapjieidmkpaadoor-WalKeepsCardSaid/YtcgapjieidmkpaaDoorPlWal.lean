/-
  Own text: plain law of layer 6: what is framed in bytes, by whole sectors, and where that ends. No program in sight.
-/
import Derived.Test.YtcgapjieidmkpaaDoorPlSumB
import Derived.Test.YtcgapjieidmkpaaDoorPlDiskLaw
set_option linter.unusedVariables false
namespace Go.Plain
open Go.Gx
/-- A place, or the next sector's begin. -/
def up32 (a : Nat) : Nat := (a + 31) / 32 * 32
theorem up32_ge (a : Nat) : a ≤ up32 a := by unfold up32; omega
theorem up32_lt (a : Nat) : up32 a < a + 32 := by unfold up32; omega
theorem up32_mod (a : Nat) : up32 a % 32 = 0 := by unfold up32; omega
def nul (b : List UInt8) : Bool := b.all (· == 0)
/-- One byte string more at a place: it, and where the next one stands. -/
def stepW (b : List UInt8) (a : Nat) : Option (List UInt8 × Nat) :=
  if opo (b.drop a) = true then
    if up32 (a + opk (b.drop a)) ≤ b.length then
      if nul ((b.drop (a + opk (b.drop a))).take (up32 (a + opk (b.drop a)) - (a + opk (b.drop a)))) = true then some (opx (b.drop a), up32 (a + opk (b.drop a))) else none
    else none
  else none
def scanF : Nat → List UInt8 → Nat → List (List UInt8) × Nat
  | 0, _, a => ([], a)
  | f + 1, b, a => match stepW b a with
    | none => ([], a)
    | some (x, e) => (x :: (scanF f b e).1, (scanF f b e).2)
def scanW (b : List UInt8) : List (List UInt8) × Nat := scanF (b.length + 1) b 0
theorem nul_no {b : List UInt8} {k : Nat} (hk : k < b.length) (h : b.getD k 0 ≠ 0) : nul b = false := by
  cases hn : nul b with
  | false => rfl
  | true =>
    exfalso
    have h1 := List.all_eq_true.1 hn (b[k]) (List.getElem_mem hk)
    have h2 : b.getD k 0 = b[k] := by simp [List.getD, List.getElem?_eq_getElem hk]
    rw [h2] at h
    exact h (by simpa using h1)
theorem nul_yes {b : List UInt8} (h : ∀ k, k < b.length → b.getD k 0 = 0) : nul b = true := List.all_eq_true.2 fun x hx => by
  obtain ⟨i, hi, rfl⟩ := List.getElem_of_mem hx
  have := h i hi
  simp [List.getD, List.getElem?_eq_getElem hi] at this
  simpa using this
section
variable {b : List UInt8} {a : Nat}
theorem step_no1 (h : ¬ opo (b.drop a) = true) : stepW b a = none := by rw [stepW, if_neg h]
theorem step_no2 (h : opo (b.drop a) = true) (h2 : ¬ up32 (a + opk (b.drop a)) ≤ b.length) : stepW b a = none := by rw [stepW, if_pos h, if_neg h2]
theorem step_no3 (h : opo (b.drop a) = true) (h2 : up32 (a + opk (b.drop a)) ≤ b.length) (h3 : ¬ nul ((b.drop (a + opk (b.drop a))).take (up32 (a + opk (b.drop a)) - (a + opk (b.drop a)))) = true) : stepW b a = none := by rw [stepW, if_pos h, if_pos h2, if_neg h3]
theorem step_yes (h : opo (b.drop a) = true) (h2 : up32 (a + opk (b.drop a)) ≤ b.length) (h3 : nul ((b.drop (a + opk (b.drop a))).take (up32 (a + opk (b.drop a)) - (a + opk (b.drop a)))) = true) : stepW b a = some (opx (b.drop a), up32 (a + opk (b.drop a))) := by rw [stepW, if_pos h, if_pos h2, if_pos h3]
theorem opk_pos {c : List UInt8} (h : opo c = true) : 0 < opk c := by
  unfold opo at h
  cases he : opn c with
  | none => rw [he] at h; cases h
  | some p =>
    obtain ⟨x, k⟩ := p
    rw [(op_some he).2.1]
    by_cases h0 : gno c = true
    · by_cases h1 : 8192 < gnv c ∨ c.length - gnk c < gnv c + 4
      · rw [opn_1 h0 h1] at he; cases he
      · by_cases h2 : be4 (crc (c.take (gnk c + gnv c))) = (c.drop (gnk c + gnv c)).take 4
        · rw [opn_3 h0 h1 h2] at he
          injection he with he; injection he with _ he; omega
        · rw [opn_2 h0 h1 h2] at he; cases he
    · have : opn c = none := opn_0 (by simpa using h0)
      rw [this] at he; cases he
theorem opk_le {c : List UInt8} : opk c ≤ c.length := by
  cases he : opn c with
  | none => rw [(op_none he).2.1]; omega
  | some p =>
    obtain ⟨x, k⟩ := p
    rw [(op_some he).2.1]
    by_cases h0 : gno c = true
    · by_cases h1 : 8192 < gnv c ∨ c.length - gnk c < gnv c + 4
      · rw [opn_1 h0 h1] at he; cases he
      · by_cases h2 : be4 (crc (c.take (gnk c + gnv c))) = (c.drop (gnk c + gnv c)).take 4
        · rw [opn_3 h0 h1 h2] at he
          injection he with he; injection he with _ he; omega
        · rw [opn_2 h0 h1 h2] at he; cases he
    · have : opn c = none := opn_0 (by simpa using h0)
      rw [this] at he; cases he
theorem step_lt {x : List UInt8} {e : Nat} (h : stepW b a = some (x, e)) : a < e ∧ e ≤ b.length ∧ e % 32 = 0 ∧ x = opx (b.drop a) := by
  by_cases h1 : opo (b.drop a) = true
  · by_cases h2 : up32 (a + opk (b.drop a)) ≤ b.length
    · by_cases h3 : nul ((b.drop (a + opk (b.drop a))).take (up32 (a + opk (b.drop a)) - (a + opk (b.drop a)))) = true
      · rw [step_yes h1 h2 h3] at h
        injection h with h; injection h with hx he
        have := opk_pos h1
        have := up32_ge (a + opk (b.drop a))
        have := up32_mod (a + opk (b.drop a))
        subst hx; subst he
        exact ⟨by omega, h2, this, rfl⟩
      · rw [step_no3 h1 h2 h3] at h; cases h
    · rw [step_no2 h1 h2] at h; cases h
  · rw [step_no1 h1] at h; cases h
/-- With as much fuel as there are bytes left, and one more, all is told. -/
theorem scanF_fuel : ∀ (f g a : Nat), b.length - a < f → b.length - a < g → a ≤ b.length → scanF f b a = scanF g b a
  | 0, _, _, h, _, _ => by omega
  | _, 0, _, _, h, _ => by omega
  | f + 1, g + 1, a, hf, hg, ha => by
    simp only [scanF]
    cases h : stepW b a with
    | none => rfl
    | some p =>
      obtain ⟨x, e⟩ := p
      obtain ⟨h1, h2, _, _⟩ := step_lt h
      simp only
      rw [scanF_fuel f g e (by omega) (by omega) h2]
def scanA (b : List UInt8) (a : Nat) : List (List UInt8) × Nat := scanF (b.length - a + 1) b a
theorem scanW_A (b : List UInt8) : scanW b = scanA b 0 := rfl
theorem scanA_none (h : stepW b a = none) : scanA b a = ([], a) := by rw [scanA, scanF, h]
theorem scanA_some {x : List UInt8} {e : Nat} (h : stepW b a = some (x, e)) : scanA b a = (x :: (scanA b e).1, (scanA b e).2) := by
  obtain ⟨h1, h2, _, _⟩ := step_lt h
  have e1 : scanF (b.length - a) b e = scanA b e := scanF_fuel _ _ _ (by omega) (by omega) h2
  rw [scanA, scanF, h]
  simp only
  rw [e1]
end
/-! ### Open -/
def zero32 : List UInt8 := List.replicate 32 0
/-- k sectors, the last of n, are looked at: those that are not 0 are written with 0. -/
def wipeR (n : Nat) (b : List UInt8) : Nat → DS → Bool → Int × DS
  | 0, d, wr => if wr then syS d else (0, d)
  | k + 1, d, wr => if sec b (n - (k + 1)) = zero32 then wipeR n b k d wr else
    if (wrS n d ((32 * (n - (k + 1)) : Nat) : Int) zero32).1 = 0 then wipeR n b k (wrS n d ((32 * (n - (k + 1)) : Nat) : Int) zero32).2 true else wrS n d ((32 * (n - (k + 1)) : Nat) : Int) zero32
section
variable {n s : Nat} {b : List UInt8} {d : DS} {wr : Bool}
theorem wipe_end : wipeR n b (n - n) d wr = if wr then syS d else (0, d) := by rw [Nat.sub_self, wipeR]
theorem wipe_skip (hs : s < n) (h : (sec b s == zero32) = true) : wipeR n b (n - s) d wr = wipeR n b (n - (s + 1)) d wr := by
  rw [show n - s = (n - (s + 1)) + 1 by omega, wipeR, show n - (n - (s + 1) + 1) = s by omega, if_pos (eq_of_beq h)]
theorem wipe_go (hs : s < n) (h : (sec b s == zero32) = false) (he : (wrS n d ((32 * s : Nat) : Int) zero32).1 = 0) : wipeR n b (n - s) d wr = wipeR n b (n - (s + 1)) (wrS n d ((32 * s : Nat) : Int) zero32).2 true := by
  rw [show n - s = (n - (s + 1)) + 1 by omega, wipeR, show n - (n - (s + 1) + 1) = s by omega, if_neg (fun e => by rw [e, beq_self_eq_true] at h; cases h), if_pos he]
theorem wipe_err (hs : s < n) (h : (sec b s == zero32) = false) (he : (wrS n d ((32 * s : Nat) : Int) zero32).1 ≠ 0) : wipeR n b (n - s) d wr = wrS n d ((32 * s : Nat) : Int) zero32 := by
  rw [show n - s = (n - (s + 1)) + 1 by omega, wipeR, show n - (n - (s + 1) + 1) = s by omega, if_neg (fun e => by rw [e, beq_self_eq_true] at h; cases h), if_neg he]
end
theorem scanF_le {b : List UInt8} : ∀ {f a : Nat}, a ≤ b.length → a % 32 = 0 → (scanF f b a).2 ≤ b.length ∧ (scanF f b a).2 % 32 = 0
  | 0, a, h, h2 => ⟨h, h2⟩
  | f + 1, a, h, h2 => by
    rw [scanF]
    cases hs : stepW b a with
    | none => exact ⟨h, h2⟩
    | some p =>
      obtain ⟨x, e⟩ := p
      obtain ⟨h1, h3, h4, _⟩ := step_lt hs
      exact scanF_le h3 h4
theorem scanW_le {b : List UInt8} : (scanW b).2 ≤ b.length ∧ (scanW b).2 % 32 = 0 := scanF_le (Nat.zero_le _) rfl
/-- Open: the error, the disk. -/
def openE (n : Nat) (d : DS) : Int × DS :=
  if (rdS n d 0 ((32 * n : Nat) : Int)).2 = 0 then wipeR n (rdS n d 0 ((32 * n : Nat) : Int)).1 (n - (scanW (rdS n d 0 ((32 * n : Nat) : Int)).1).2 / 32) d false else ((rdS n d 0 ((32 * n : Nat) : Int)).2, d)
theorem rd_ok {n : Nat} {d : DS} (hl : d.now.length = 32 * n) (h : (rdS n d 0 ((32 * n : Nat) : Int)).2 = 0) : rdS n d 0 ((32 * n : Nat) : Int) = (d.now, 0) := by
  by_cases ho : d.off = true
  · rw [rdS, if_pos ho] at h; cases h
  · rw [rdS, if_neg ho, if_neg (by omega)]
    simp only [Int.toNat_zero, List.drop_zero, Int.toNat_natCast]
    rw [List.take_of_length_le (by omega)]
theorem open_bad {n : Nat} {d : DS} (h : (rdS n d 0 ((32 * n : Nat) : Int)).2 ≠ 0) : openE n d = ((rdS n d 0 ((32 * n : Nat) : Int)).2, d) := by rw [openE, if_neg h]
theorem open_good {n : Nat} {d : DS} (hl : d.now.length = 32 * n) (h : (rdS n d 0 ((32 * n : Nat) : Int)).2 = 0) : openE n d = wipeR n d.now (n - (scanW d.now).2 / 32) d false := by
  rw [openE, if_pos h, rd_ok hl h]
/-- A frame, and noughts up to the next sector. -/
def padW (b : List UInt8) : List UInt8 := frame b ++ List.replicate (up32 (frame b).length - (frame b).length) 0
theorem padW_len (b : List UInt8) : (padW b).length = up32 (frame b).length := by
  have := up32_ge (frame b).length
  rw [padW, List.length_append, List.length_replicate]; omega
structure LS where
  e : Nat
  c : Nat
  s : Nat
def apE (n : Nat) (d : DS) (l : LS) (b : List UInt8) : Int × DS := if 8192 < b.length then (12, d) else wrS n d (l.e : Int) (padW b)
def apL (n : Nat) (d : DS) (l : LS) (b : List UInt8) : LS := if (apE n d l b).1 = 0 then ⟨l.e + (padW b).length, l.c + 1, l.s⟩ else l
def syL (d : DS) (l : LS) : LS := if (syS d).1 = 0 then ⟨l.e, l.c, l.c⟩ else l
theorem ap_long {n : Nat} {d : DS} {l : LS} {b : List UInt8} (h : 8192 < b.length) : apE n d l b = (12, d) ∧ apL n d l b = l := by
  have e : apE n d l b = (12, d) := by rw [apE, if_pos h]
  exact ⟨e, by rw [apL, e]; rfl⟩
theorem ap_err {n : Nat} {d : DS} {l : LS} {b : List UInt8} (h : ¬ 8192 < b.length) (h2 : (wrS n d (l.e : Int) (padW b)).1 ≠ 0) : apE n d l b = wrS n d (l.e : Int) (padW b) ∧ apL n d l b = l := by
  have e : apE n d l b = wrS n d (l.e : Int) (padW b) := by rw [apE, if_neg h]
  exact ⟨e, by rw [apL, e, if_neg h2]⟩
theorem ap_ok {n : Nat} {d : DS} {l : LS} {b : List UInt8} (h : ¬ 8192 < b.length) (h2 : (wrS n d (l.e : Int) (padW b)).1 = 0) : apE n d l b = wrS n d (l.e : Int) (padW b) ∧ apL n d l b = ⟨l.e + (padW b).length, l.c + 1, l.s⟩ := by
  have e : apE n d l b = wrS n d (l.e : Int) (padW b) := by rw [apE, if_neg h]
  exact ⟨e, by rw [apL, e, if_pos h2]⟩
/-! ### The same, byte by byte -/
section
variable {b : List UInt8} {p q : Nat}
theorem gd_cut {b : List UInt8} {a m j : Nat} (h : j < m) : ((b.drop a).take m).getD j 0 = b.getD (a + j) 0 := by
  simp only [List.getD]
  rw [List.getElem?_take, if_pos h, List.getElem?_drop]
theorem step_qy (h : opo (b.drop p) = true) (h1 : p + opk (b.drop p) ≤ q) (h2 : q ≤ up32 (p + opk (b.drop p))) (hm : q % 32 = 0) (hl : q ≤ b.length) (hz : ∀ j, p + opk (b.drop p) ≤ j → j < q → b.getD j 0 = 0) : stepW b p = some (opx (b.drop p), q) := by
  have e : q = up32 (p + opk (b.drop p)) := by unfold up32 at h2 ⊢; omega
  rw [step_yes h (by omega), e]
  refine nul_yes fun j hj => ?_
  rw [List.length_take, List.length_drop] at hj
  rw [gd_cut (by omega)]
  exact hz _ (by omega) (by omega)
theorem step_qn (h : opo (b.drop p) = true) (h1 : p + opk (b.drop p) ≤ q) (h2 : q ≤ up32 (p + opk (b.drop p))) (hm : q % 32 ≠ 0) (hl : b.length ≤ q ∨ b.getD q 0 ≠ 0) : stepW b p = none := by
  have hm2 := up32_mod (p + opk (b.drop p))
  have h3 : q < up32 (p + opk (b.drop p)) := by
    rcases Nat.lt_or_ge q (up32 (p + opk (b.drop p))) with h | h
    · exact h
    · exact absurd (show q % 32 = 0 by rw [show q = up32 (p + opk (b.drop p)) by omega]; exact hm2) hm
  by_cases h4 : up32 (p + opk (b.drop p)) ≤ b.length
  · refine step_no3 h h4 ?_
    have hq : q < b.length := by omega
    rw [nul_no (k := q - (p + opk (b.drop p)))]
    · decide
    · rw [List.length_take, List.length_drop]; omega
    · rw [gd_cut (by omega), show p + opk (b.drop p) + (q - (p + opk (b.drop p))) = q by omega]
      exact hl.resolve_left (by omega)
  · exact step_no2 h h4
end
theorem scanF_cnt {b : List UInt8} : ∀ {f a : Nat}, a % 32 = 0 → (scanF f b a).1.length * 32 + a ≤ (scanF f b a).2
  | 0, a, h => by simp [scanF]
  | f + 1, a, h => by
    rw [scanF]
    cases hs : stepW b a with
    | none => simp
    | some p =>
      obtain ⟨x, e⟩ := p
      obtain ⟨h1, h3, h4, _⟩ := step_lt hs
      have := scanF_cnt (b := b) (f := f) (a := e) h4
      simp only [List.length_cons]
      omega
theorem scanW_cnt (b : List UInt8) : (scanW b).1.length * 32 ≤ b.length := by
  have h1 := scanF_cnt (b := b) (f := b.length + 1) (a := 0) rfl
  have h2 := (scanW_le (b := b)).1
  unfold scanW at h2 ⊢
  omega
end Go.Plain
