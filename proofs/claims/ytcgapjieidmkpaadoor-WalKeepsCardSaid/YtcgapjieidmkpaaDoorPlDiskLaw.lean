/-
  Own text: plain: what the laws of layer 5 say of a disk.
-/
import Derived.Test.YtcgapjieidmkpaaDoorPlDiskOk
set_option linter.unusedVariables false
namespace Go.Plain

/-! ### DiskArms: an armed disk, j bytes written -/
def aNow (j : Nat) : List UInt8 := if j = 0 then List.replicate 128 0 else UInt8.ofNat j :: List.replicate 127 0
def aK (k j : Nat) : DS := ⟨List.replicate 128 0, aNow j, if j = 0 then [] else [0], false, k - j, [1, 2, 3], 0⟩
theorem aNow_len (j : Nat) : (aNow j).length = 128 := by unfold aNow; split <;> simp
theorem aNow_set (j : Nat) (x : UInt8) : spl (aNow j) 0 [x] = x :: List.replicate 127 0 := by
  unfold aNow; split
  · rfl
  · rfl
theorem aK_0 (k : Nat) : armS (newD 4) (k : Int) [1, 2, 3] 0 = aK k 0 := by
  unfold armS aK newD
  simp only [aNow, if_true, Nat.sub_zero, Nat.reduceMul, DS.mk.injEq, and_true, true_and]
  omega
theorem touch_0 (j : Nat) : touch (if j = 0 then [] else [0]) (0 / 32) (cnt 0 1) = [0] := by
  have : cnt 0 1 = 1 := rfl
  rw [this]
  split <;> simp [touch]
theorem aK_wr {k j : Nat} (h : j + 1 < k) : wrS 4 (aK k j) 0 [UInt8.ofNat (j + 1)] = (0, aK k (j + 1)) := by
  have hs : strk (aK k j) = (false, { aK k j with armed := k - j - 1 }) := strk_n (by show 1 < k - j; omega)
  rw [wrS_done rfl (by omega) (by simp) (by simp) (by rw [hs]), hs]
  have e := aNow_set j (UInt8.ofNat (j + 1))
  have e2 := touch_0 j
  simp only [put, aK, Int.toNat_zero, List.length_cons, List.length_nil, Nat.zero_add, Prod.mk.injEq, true_and, DS.mk.injEq]
  refine ⟨?_, ?_, ⟨by omega, trivial⟩⟩
  · rw [e]; simp [aNow]
  · rw [e2]; simp
theorem aK_rd {k j : Nat} (h : 0 < j) : rdS 4 (aK k j) 0 1 = ([UInt8.ofNat j], 0) := by
  rw [rdS_good rfl (by omega)]
  simp only [aK, aNow, if_neg (show ¬ j = 0 by omega), Int.toNat_zero, List.drop_zero, Int.toNat_one, List.take_succ_cons, List.take_zero]
theorem aK_nil (k j : Nat) : wrS 4 (aK k j) 0 [] = (0, aK k j) := wrS_nil rfl (by omega) (by simp) rfl
def aEnd : DS := ⟨List.replicate 128 0, List.replicate 128 0, [], true, 0, [1, 2, 3], 0⟩
theorem aK_end {k : Nat} (h : 0 < k) : wrS 4 (aK k (k - 1)) 0 [99] = (7, aEnd) := by
  have hs : strk (aK k (k - 1)) = (true, crash (aK k (k - 1)) (aK k (k - 1)).keep (aK k (k - 1)).torn) := strk_1 (by show k - (k - 1) = 1; omega)
  rw [wrS_strk rfl (by omega) (by simp) (by simp) (by rw [hs]), hs]
  have hc : crashed (aK k (k - 1)) [1, 2, 3] 0 = List.replicate 128 0 := by
    unfold crashed aK
    simp only
    split
    · rfl
    · have e0 : clampT 0 = 0 := rfl
      simp [crash1, e0, spl]
  simp only [crash, aEnd, aK, Prod.mk.injEq, true_and, DS.mk.injEq, and_true]
  exact ⟨hc, hc⟩
def aEnd2 : DS := { aEnd with off := false }
theorem aEnd_st : stS aEnd = (true, aEnd2) := rfl
theorem aEnd2_rd : rdS 4 aEnd2 0 1 = ([0], 0) := by rw [rdS_good rfl (by omega)]; rfl
theorem aEnd2_wr : (wrS 4 aEnd2 0 [1]).1 = 0 := by rw [wrS_done rfl (by omega) (by simp) (by simp) (by rfl)]

/-! ### A disk that is not armed, with power -/
structure CalmD (d : DS) (n : Nat) : Prop where
  off : d.off = false
  arm : d.armed = 0
theorem calm_new (n : Nat) : CalmD (newD n) n := ⟨rfl, rfl⟩
section
variable {d : DS} {n : Nat}
theorem CalmD.strk (h : CalmD d n) : strk d = (false, d) := strk_0 h.arm
theorem CalmD.sy (h : CalmD d n) : (syS d).1 = 0 ∧ (syS d).2.now = d.now ∧ (syS d).2.ord = [] ∧ CalmD (syS d).2 n := by
  by_cases h1 : d.ord = []
  · rw [syS_none h.off h1]; exact ⟨rfl, rfl, h1, h⟩
  · rw [syS_done h.off h1 (by rw [h.strk]), h.strk]; exact ⟨rfl, rfl, rfl, ⟨h.off, h.arm⟩⟩
def fits (n : Nat) (a : Int) (b : List UInt8) : Prop := 0 ≤ a ∧ a ≤ 32 * n ∧ (b.length : Int) ≤ 32 * n - a
theorem CalmD.wr (h : CalmD d n) {a : Int} {b : List UInt8} (hf : fits n a b) : (wrS n d a b).1 = 0 ∧ (wrS n d a b).2.now = spl d.now a.toNat b ∧ (wrS n d a b).2.ord = touch d.ord (a.toNat / 32) (cnt a.toNat b.length) ∧ (wrS n d a b).2.safe = d.safe ∧ CalmD (wrS n d a b).2 n := by
  obtain ⟨h1, h2, h3⟩ := hf
  by_cases hb : b = []
  · subst hb
    rw [wrS_nil h.off (by omega) (by simp only [List.length_nil] at h3 ⊢; omega) rfl, spl_nil]; exact ⟨rfl, rfl, rfl, rfl, h⟩
  · rw [wrS_done h.off (by omega) (by omega) hb (by rw [h.strk]), h.strk]; exact ⟨rfl, rfl, rfl, rfl, ⟨h.off, h.arm⟩⟩
theorem CalmD.wrno (h : CalmD d n) {a : Int} {b : List UInt8} (hf : ¬ fits n a b) : (wrS n d a b).1 ≠ 0 ∧ (wrS n d a b).2 = d := by
  unfold fits at hf
  by_cases h1 : a < 0
  · rw [wrS_neg h.off h1]; exact ⟨fun e => by simp at e, rfl⟩
  · rw [wrS_full h.off h1 (by omega)]; exact ⟨fun e => by simp at e, rfl⟩
theorem CalmD.wr0 (h : CalmD d n) {a : Int} {b : List UInt8} : (wrS n d a b).1 = 0 ↔ fits n a b := by
  by_cases hf : fits n a b
  · exact ⟨fun _ => hf, fun _ => (h.wr hf).1⟩
  · exact ⟨fun e => absurd e (h.wrno hf).1, fun e => absurd e hf⟩
theorem CalmD.rd (h : CalmD d n) (hl : d.now.length = 32 * n) : rdS n d 0 ((32 * n : Nat) : Int) = (d.now, 0) := by
  rw [rdS_good h.off (by omega)]
  simp only [Int.toNat_zero, List.drop_zero, Int.toNat_natCast]
  rw [List.take_of_length_le (by omega)]
end
theorem touch_byte {ord : List Nat} {a i : Nat} : touch ord (a / 32) (cnt a (i + 1)) = if (a + i) / 32 ∈ touch ord (a / 32) (cnt a i) then touch ord (a / 32) (cnt a i) else touch ord (a / 32) (cnt a i) ++ [(a + i) / 32] := by
  rcases Nat.eq_zero_or_pos i with h0 | h0
  · subst h0
    have h1 : cnt a 0 = 0 := rfl
    have h2 : cnt a (0 + 1) = 1 := by unfold cnt; rw [if_neg (by omega)]; simp
    rw [h1, h2]
    simp [touch]
  · have h1 := cnt_last (a := a) h0
    have h2 := cnt_last (a := a) (j := i + 1) (by omega)
    by_cases h3 : (a + i) / 32 = (a + i - 1) / 32
    · have h4 : cnt a (i + 1) = cnt a i := by
        have : a + (i + 1) - 1 = a + i := by omega
        rw [this] at h2; omega
      rw [h4, if_pos (mem_touch.2 (.inr (by have : (a + i - 1) / 32 ≥ a / 32 := Nat.div_le_div_right (by omega); omega)))]
    · have h4 : cnt a (i + 1) = cnt a i + 1 := by
        have : a + (i + 1) - 1 = a + i := by omega
        rw [this] at h2
        omega
      have h5 : a / 32 + cnt a i = (a + i) / 32 := by
        rw [h1]
        omega
      rw [h4, touch, h5]

theorem bne_dec {p q : Prop} [Decidable p] [Decidable q] (h : p ↔ q) : (decide p != decide q) = false := by
  have : decide p = decide q := decide_eq_decide.2 h
  rw [this]; simp
theorem bne_f {p : Prop} [Decidable p] (h : ¬ p) : (decide p != false) = false := by rw [decide_eq_false h]; rfl
/-- What a copy into the rest of a row does. -/
theorem spl_copy {l b : List UInt8} {x o N m : Nat} (hl : l.length = N) (ho : o = if N = x then 0 else x) (hx : x ≤ N) (hb : b.length = m) (hm : m ≤ N - x) : spl l o (b.take (min m (N - x))) = spl l x b := by
  rw [Nat.min_eq_left hm, List.take_of_length_le (by omega)]
  by_cases h : N = x
  · have : b = [] := List.eq_nil_of_length_eq_zero (by omega)
    rw [this, spl_nil, spl_nil]
  · rw [ho, if_neg h]
theorem nd {p : Prop} [Decidable p] (h : p) : (!decide p) = false := by rw [decide_eq_true h]; rfl
theorem mem_take_next {l : List Nat} {m s : Nat} (h : m < l.length) : s ∈ l.take (m + 1) ↔ s ∈ l.take m ∨ l.getD m 0 = s := by
  rw [List.take_succ_eq_append_getElem h, List.mem_append, List.mem_singleton]
  simp only [List.getD, List.getElem?_eq_getElem h, Option.getD_some]
  constructor
  · rintro (h1 | h1)
    · exact .inl h1
    · exact .inr h1.symm
  · rintro (h1 | h1)
    · exact .inl h1
    · exact .inr h1.symm
theorem cnt_zero (a : Nat) : cnt a 0 = 0 := rfl
theorem touch_zero (ord : List Nat) (i : Nat) : touch ord i 0 = ord := rfl
theorem touch_len {ord : List Nat} {i : Nat} : ∀ {m : Nat}, (touch ord i m).length ≤ ord.length + m
  | 0 => Nat.le_refl _
  | m + 1 => by
    have := touch_len (ord := ord) (i := i) (m := m)
    rw [touch]
    split
    · omega
    · rw [List.length_append, List.length_singleton]; omega
theorem cnt_le (a j : Nat) : cnt a j ≤ j + 1 := by unfold cnt; split <;> omega
/-! ### DiskSectors -/
/-- What a crash leaves of a disk whose sectors are safe and written. -/
theorem crash_sectors {d : DS} {n : Nat} (hok : d.Ok n) (keep : List Int) (N : Int) : (crashed d keep N).length = 32 * n ∧ (∀ k, k < n → (k : Int) ∈ keep → sec (crashed d keep N) k = sec d.now k) ∧
    ∃ t, ∀ k, k < n → (k : Int) ∉ keep → (k ≠ t → sec (crashed d keep N) k = sec d.safe k) ∧ (k = t → sec (crashed d keep N) k = (sec d.now k).take (clampT N) ++ (sec d.safe k).drop (clampT N) ∨ sec (crashed d keep N) k = sec d.safe k) := by
  refine ⟨fold_len hok.w hok.lt hok.s, fun k hk hin => ?_, ?_⟩
  · by_cases ho : k ∈ d.ord
    · exact fold_keep hok.w hk hin hok.lt hok.s hok.nd ho
    · unfold crashed
      rw [fold_out hok.w hk hok.lt hok.s ho]; exact (hok.same k hk ho).symm
  · obtain ⟨t, ht⟩ := fold_torn (keep := keep) (m := clampT N) hok.w (p := (d.safe, false)) hok.lt hok.s hok.nd
    refine ⟨t, fun k hk hn => ⟨(ht k hk hn).1, fun e => ?_⟩⟩
    by_cases ho : k ∈ d.ord
    · left
      have h1 := (ht k hk hn).2 e
      unfold crashed
      rw [h1]
      have hl := sec_len hok.w hk
      have hm := clampT_le N
      simp only [spl, List.take_zero, List.nil_append, Nat.zero_add, List.length_take, hl]
      rw [Nat.min_eq_left hm]
    · right
      unfold crashed
      exact fold_out hok.w hk hok.lt hok.s ho
theorem ok_clean {d : DS} {n : Nat} (h : d.Ok n) (ho : d.ord = []) : d.safe = d.now := (all_sec h.w h.s (fun i hi => h.same i hi (by rw [ho]; simp))).symm
theorem mem_take_nextI {l : List Int} {m : Nat} {s : Int} (h : m < l.length) : s ∈ l.take (m + 1) ↔ s ∈ l.take m ∨ l.getD m 0 = s := by
  rw [List.take_succ_eq_append_getElem h, List.mem_append, List.mem_singleton]
  simp only [List.getD, List.getElem?_eq_getElem h, Option.getD_some]
  constructor
  · rintro (h1 | h1)
    · exact .inl h1
    · exact .inr h1.symm
  · rintro (h1 | h1)
    · exact .inl h1
    · exact .inr h1.symm
/-- What a crash leaves in a sector: as it was written last where it was kept; else as it was safe, but for one that is torn. -/
def tornAt (d : DS) (N : Int) (X : List UInt8) (t k : Nat) : Prop := k = t ∧ 1 ≤ N ∧ N ≤ 31 ∧ sec X k = (sec d.now k).take N.toNat ++ (sec d.safe k).drop N.toNat
theorem crash_cases {d : DS} {n : Nat} (hok : d.Ok n) (keep : List Int) (N : Int) : ∃ t, ∀ k, k < n → ((k : Int) ∈ keep → sec (crashed d keep N) k = sec d.now k) ∧ (sec (crashed d keep N) k = sec d.safe k ∨ sec (crashed d keep N) k = sec d.now k ∨ tornAt d N (crashed d keep N) t k) := by
  obtain ⟨_, h1, t, h2⟩ := crash_sectors hok keep N
  refine ⟨t, fun k hk => ⟨h1 k hk, ?_⟩⟩
  by_cases hin : (k : Int) ∈ keep
  · exact .inr (.inl (h1 k hk hin))
  · obtain ⟨h3, h4⟩ := h2 k hk hin
    by_cases e : k = t
    · rcases h4 e with h5 | h5
      · by_cases hN : N ≤ 0
        · left
          have : clampT N = 0 := by unfold clampT; omega
          rw [h5, this]; simp
        · by_cases hN2 : 32 ≤ N
          · right; left
            have : clampT N = 32 := by unfold clampT; omega
            have l1 := sec_len hok.w hk
            have l2 := sec_len hok.s hk
            rw [h5, this, List.take_of_length_le (by omega), List.drop_of_length_le (by omega), List.append_nil]
          · right; right
            have : clampT N = N.toNat := by unfold clampT; omega
            rw [this] at h5
            exact ⟨e, by omega, by omega, h5⟩
      · exact .inl h5
    · exact .inl (h3 e)
theorem spl_len0 {l c : List UInt8} (h : c.length ≤ l.length) : (spl l 0 c).length = l.length := spl_len (by omega)
/-- What an act makes of a disk. -/
def oneS (n : Nat) (d : DS) (k a m : Int) (b : List UInt8) (keep : List Int) : DS :=
  if k = 0 then (wrS n d a b).2 else if k = 2 then (syS d).2 else if k = 3 then armS d m keep a else if k = 4 then (crS d keep m).2 else if k = 5 then (stS d).2 else d
theorem one_0 {n : Nat} {d : DS} {k a m : Int} {b : List UInt8} {keep : List Int} (h : k = 0) : oneS n d k a m b keep = (wrS n d a b).2 := by rw [oneS, if_pos h]
theorem one_2 {n : Nat} {d : DS} {k a m : Int} {b : List UInt8} {keep : List Int} (h : k = 2) : oneS n d k a m b keep = (syS d).2 := by rw [oneS, if_neg (by omega), if_pos h]
theorem one_3 {n : Nat} {d : DS} {k a m : Int} {b : List UInt8} {keep : List Int} (h : k = 3) : oneS n d k a m b keep = armS d m keep a := by rw [oneS, if_neg (by omega), if_neg (by omega), if_pos h]
theorem one_4 {n : Nat} {d : DS} {k a m : Int} {b : List UInt8} {keep : List Int} (h : k = 4) : oneS n d k a m b keep = (crS d keep m).2 := by rw [oneS, if_neg (by omega), if_neg (by omega), if_neg (by omega), if_pos h]
theorem one_5 {n : Nat} {d : DS} {k a m : Int} {b : List UInt8} {keep : List Int} (h : k = 5) : oneS n d k a m b keep = (stS d).2 := by rw [oneS, if_neg (by omega), if_neg (by omega), if_neg (by omega), if_neg (by omega), if_pos h]
theorem one_x {n : Nat} {d : DS} {k a m : Int} {b : List UInt8} {keep : List Int} (h0 : ¬ k = 0) (h2 : ¬ k = 2) (h3 : ¬ k = 3) (h4 : ¬ k = 4) (h5 : ¬ k = 5) : oneS n d k a m b keep = d := by rw [oneS, if_neg h0, if_neg h2, if_neg h3, if_neg h4, if_neg h5]
/-- All dirty sectors kept: what stands there is what is left. -/
theorem crash_all {d : DS} {n : Nat} (h : d.Ok n) (N : Int) : crashed d (d.ord.map fun i : Nat => (i : Int)) N = d.now := by
  obtain ⟨h1, h2, _⟩ := crash_sectors h (d.ord.map fun i : Nat => (i : Int)) N
  refine all_sec h1 h.w fun i hi => ?_
  by_cases ho : i ∈ d.ord
  · exact h2 i hi (List.mem_map.2 ⟨i, ho, rfl⟩)
  · unfold crashed
    rw [fold_out h.w hi h.lt h.s ho]; exact (h.same i hi ho).symm
/-- A clean sector's bytes are there behind any crash. -/
theorem crash_clean {d : DS} {n : Nat} (h : d.Ok n) (keep : List Int) (N : Int) {i j : Nat} (hj : j = i / 32) (hi : i < 32 * n) (hn : j ∉ d.ord) : (crashed d keep N).getD i 0 = d.now.getD i 0 := by
  subst hj
  have h1 := (crash_sectors h keep N).1
  have e : sec (crashed d keep N) (i / 32) = sec d.now (i / 32) := by
    unfold crashed
    rw [fold_out h.w (by omega) h.lt h.s hn]; exact (h.same _ (by omega) hn).symm
  exact (sec_eq h1 h.w (by omega)).1 e i (by omega) (by omega)
theorem CalmD.wrC {d : DS} {n : Nat} (h : CalmD d n) (a : Int) (b : List UInt8) : CalmD (wrS n d a b).2 n := by
  by_cases hf : fits n a b
  · exact (h.wr hf).2.2.2.2
  · rw [(h.wrno hf).2]; exact h
end Go.Plain
