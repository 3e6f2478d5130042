/-
  Own text: plain: a log of byte strings of a sector each, on a disk whose power goes: what is told then.
-/
import Derived.Test.YtcgapjieidmkpaaDoorPlWalLaw
set_option linter.unusedVariables false
namespace Go.Plain
open Go.Gx
def Short (xs : List (List UInt8)) : Prop := ∀ x ∈ xs, x.length ≤ 20
def recW (xs : List (List UInt8)) (k : Nat) : List UInt8 := padW (xs.getD k [])
theorem pad_20 {x : List UInt8} (h : x.length ≤ 20) : (padW x).length = 32 := by rw [pad_small (by omega)]; omega
theorem flat_short : ∀ {xs : List (List UInt8)}, Short xs → (flatW xs).length = 32 * xs.length
  | [], _ => rfl
  | x :: r, h => by
    have h1 := pad_20 (h x (by simp))
    have h2 := flat_short (xs := r) (fun y hy => h y (by simp [hy]))
    have e : flatW (x :: r) = padW x ++ flatW r := by simp [flatW]
    rw [e, List.length_append, h1, h2, List.length_cons]; omega
theorem Short.take {xs : List (List UInt8)} (h : Short xs) (k : Nat) : Short (xs.take k) := fun x hx => h x (List.mem_of_mem_take hx)
theorem flat_app (a b : List (List UInt8)) : flatW (a ++ b) = flatW a ++ flatW b := by simp [flatW]
theorem sec_flat {xs : List (List UInt8)} {r : List UInt8} {k : Nat} (hs : Short xs) (hk : k < xs.length) : sec (flatW xs ++ r) k = recW xs k := by
  have e : xs = xs.take k ++ (xs.getD k [] :: xs.drop (k + 1)) := by
    have h1 : xs.getD k [] = xs[k] := by simp [List.getD, List.getElem?_eq_getElem hk]
    rw [h1, ← List.drop_eq_getElem_cons hk, List.take_append_drop]
  have hl := flat_short (hs.take k)
  rw [List.length_take, Nat.min_eq_left (by omega)] at hl
  have e2 : flatW xs = flatW (xs.take k) ++ (recW xs k ++ flatW (xs.drop (k + 1))) := by
    conv => lhs; rw [e, flat_app]
    simp [flatW, recW]
  have hp : (recW xs k).length = 32 := pad_20 (by
    have h1 : xs.getD k [] = xs[k] := by simp [List.getD, List.getElem?_eq_getElem hk]
    rw [h1]; exact hs _ (List.getElem_mem hk))
  unfold sec
  rw [e2, List.append_assoc, ← hl, List.drop_left, List.append_assoc, List.take_left' hp]
theorem sec_zeros {p : List UInt8} {m k : Nat} (h : p.length ≤ 32 * k) (h2 : 32 * k + 32 ≤ p.length + m) : sec (p ++ List.replicate m 0) k = zero32 := by
  unfold sec
  rw [List.drop_append, List.drop_eq_nil_of_le h, List.nil_append, List.drop_replicate, List.take_replicate, zero32, Nat.min_eq_left (by omega)]
/-- Each sector is a byte string's, or 0; those ahead of s are the byte strings'. -/
structure SP (n : Nat) (m : List UInt8) (xs : List (List UInt8)) (s : Nat) : Prop where
  len : m.length = 32 * n
  lo : ∀ k, k < n → k < s → sec m k = recW xs k
  hi : ∀ k, k < n → s ≤ k → sec m k = zero32 ∨ (k < xs.length ∧ sec m k = recW xs k)
section
variable {n s : Nat} {m m1 m2 : List UInt8} {xs : List (List UInt8)} {d : DS}
theorem SP.flat {t : Nat} (hs : Short xs) (hst : s ≤ t) (ht : t ≤ xs.length) (hn : 32 * t ≤ 32 * n) : SP n (flatW (xs.take t) ++ List.replicate (32 * n - (flatW (xs.take t)).length) 0) xs s := by
  have hl := flat_short (hs.take t)
  rw [List.length_take, Nat.min_eq_left ht] at hl
  have hr : ∀ k, k < t → recW (xs.take t) k = recW xs k := fun k hk => by
    unfold recW
    rw [show (xs.take t).getD k [] = xs.getD k [] from by simp only [List.getD]; rw [List.getElem?_take, if_pos hk]]
  have hk1 : ∀ k, k < t → sec (flatW (xs.take t) ++ List.replicate (32 * n - (flatW (xs.take t)).length) 0) k = recW xs k := fun k hk => by
    rw [sec_flat (hs.take t) (by rw [List.length_take]; omega), hr k hk]
  refine ⟨by rw [List.length_append, List.length_replicate]; omega, fun k hk hks => hk1 k (by omega), fun k hk hks => ?_⟩
  by_cases h : k < t
  · exact .inr ⟨by omega, hk1 k h⟩
  · exact .inl (sec_zeros (by omega) (by omega))
theorem SP.mix (h1 : SP n m1 xs s) (h2 : SP n m2 xs s) (hl : m.length = 32 * n) (h : ∀ k, k < n → sec m k = sec m1 k ∨ sec m k = sec m2 k) : SP n m xs s := by
  refine ⟨hl, fun k hk hs => ?_, fun k hk hs => ?_⟩
  · rcases h k hk with e | e
    · rw [e]; exact h1.lo k hk hs
    · rw [e]; exact h2.lo k hk hs
  · rcases h k hk with e | e
    · rw [e]; exact h1.hi k hk hs
    · rw [e]; exact h2.hi k hk hs
theorem SP.zero {t : Nat} (h : SP n m xs s) (h1 : s ≤ t) (h2 : t < n) : SP n (spl m (32 * t) zero32) xs s := by
  have hz : zero32.length = 32 := List.length_replicate ..
  have hl := h.len
  have hk1 : ∀ k, k < n → k ≠ t → sec (spl m (32 * t) zero32) k = sec m k := fun k hk hne => sec_spl_other hl hk (by rw [hz]; omega) (by rw [hz]; omega)
  refine ⟨by rw [spl_len (by rw [hz]; omega)]; exact hl, fun k hk hs => ?_, fun k hk hs => ?_⟩
  · rw [hk1 k hk (by omega)]; exact h.lo k hk hs
  · by_cases e : k = t
    · subst e
      exact .inl (sec_spl_same hl hk hz)
    · rw [hk1 k hk e]; exact h.hi k hk hs
/-- What a disk keeps, whatever happens. -/
structure KI (n : Nat) (d : DS) (xs : List (List UInt8)) (s : Nat) : Prop where
  ok : d.Ok n
  now : SP n d.now xs s
  safe : SP n d.safe xs s
  torn : d.torn = 0
  off : d.off = true → d.armed = 0
theorem KI.crash (h : KI n d xs s) (keep : List Int) : KI n (crash d keep 0) xs s := by
  obtain ⟨h1, h2, t, h3⟩ := crash_sectors h.ok keep 0
  have e0 : clampT 0 = 0 := rfl
  have hm : SP n (crashed d keep 0) xs s := SP.mix h.now h.safe h1 fun k hk => by
    by_cases hin : (k : Int) ∈ keep
    · exact .inl (h2 k hk hin)
    · obtain ⟨a, b⟩ := h3 k hk hin
      by_cases e : k = t
      · rcases b e with e1 | e1
        · rw [e0, List.take_zero, List.drop_zero, List.nil_append] at e1; exact .inr e1
        · exact .inr e1
      · exact .inr (a e)
  exact ⟨crash_ok h.ok keep 0, hm, hm, h.torn, fun _ => rfl⟩
theorem KI.strike (h : KI n d xs s) : KI n (strk d).2 xs s := by
  by_cases h0 : d.armed = 0
  · rw [strk_0 h0]; exact h
  · by_cases h1 : d.armed = 1
    · rw [strk_1 h1, h.torn]; exact h.crash _
    · rw [strk_n (by omega)]
      exact ⟨⟨h.ok.s, h.ok.w, h.ok.nd, h.ok.lt, h.ok.same⟩, h.now, h.safe, h.torn, fun e => absurd (h.off e) h0⟩
theorem KI.wr {t : Nat} (h : KI n d xs s) (h1 : s ≤ t) (h2 : t < n) : KI n (wrS n d ((32 * t : Nat) : Int) zero32).2 xs s := by
  have hz : zero32.length = 32 := List.length_replicate ..
  by_cases ho : d.off = true
  · rw [wrS_off ho]; exact h
  · have ho : d.off = false := by simpa using ho
    have hf : ¬ (((32 * t : Nat) : Int) > 32 * n ∨ (zero32.length : Int) > 32 * n - ((32 * t : Nat) : Int)) := by rw [hz]; omega
    have hne : zero32 ≠ [] := by unfold zero32; simp
    by_cases hs : (strk d).1 = true
    · rw [wrS_strk ho (by omega) hf hne hs]; exact h.strike
    · have hs : (strk d).1 = false := by simpa using hs
      rw [wrS_done ho (by omega) hf hne hs, Int.toNat_natCast]
      have hk := h.strike
      refine ⟨put_ok hk.ok (by rw [hz]; omega) (by rw [hz]; omega), hk.now.zero h1 h2, hk.safe, hk.torn, hk.off⟩
theorem KI.sy (h : KI n d xs s) : KI n (syS d).2 xs s := by
  by_cases ho : d.off = true
  · rw [syS_off ho]; exact h
  · have ho : d.off = false := by simpa using ho
    by_cases h2 : d.ord = []
    · rw [syS_none ho h2]; exact h
    · by_cases hs : (strk d).1 = true
      · rw [syS_strk ho h2 hs]; exact h.strike
      · have hs : (strk d).1 = false := by simpa using hs
        have hok := sy_ok h.ok
        rw [syS_done ho h2 hs] at hok ⊢
        have hk := h.strike
        exact ⟨hok, hk.now, hk.now, hk.torn, hk.off⟩
theorem KI.wipe {b : List UInt8} : ∀ (k : Nat) {d : DS} (wr : Bool), KI n d xs s → k ≤ n → s ≤ n - k → KI n (wipeR n b k d wr).2 xs s
  | 0, d, wr, h, _, _ => by
    rw [wipeR]; split
    · exact h.sy
    · exact h
  | k + 1, d, wr, h, hk, hs => by
    rw [wipeR]
    split
    · exact KI.wipe k wr h (by omega) (by omega)
    · have h2 := h.wr (t := n - (k + 1)) hs (by omega)
      split
      · exact KI.wipe k true h2 (by omega) (by omega)
      · exact h2
theorem opo_five {c : List UInt8} (h : c.take 5 = [0, 0, 0, 0, 0]) : opo c = false := by
  have hl : 5 ≤ c.length := by
    have := congrArg List.length h
    rw [List.length_take] at this
    simp at this; omega
  have e : c = [0, 0, 0, 0, 0] ++ c.drop 5 := by rw [← h, List.take_append_drop]
  have hg : gn c = some (0, 1) := by rw [e]; exact gn_ext (b := [0, 0, 0, 0, 0]) (by decide +kernel) _
  have h0 : gno c = true := by simp [gno, hg]
  have hv : gnv c = 0 := by simp [gnv, hg]
  have hk : gnk c = 1 := by simp [gnk, hg]
  refine (op_none (opn_2 h0 (by rw [hv, hk]; omega) ?_)).2.2
  rw [hv, hk]
  intro h
  refine crc0 ?_
  rw [e] at h
  simpa using h
/-- What is told of a disk whose sectors are as said. -/
theorem SP.scan (h : SP n m xs s) (hs : Short xs) (hsl : s ≤ xs.length) (hsn : s ≤ n) (hxn : xs.length ≤ n) :
    ∃ j, s ≤ j ∧ j ≤ xs.length ∧ scanW m = (xs.take j, 32 * j) ∧ ∀ k, k < j → sec m k = recW xs k := by
  have key : ∀ (f p : Nat), p + f = n → p ≤ xs.length → (∀ k, k < p → sec m k = recW xs k) → ∃ j, s ≤ j ∧ j ≤ xs.length ∧ p ≤ j ∧ scanA m (32 * p) = ((xs.drop p).take (j - p), 32 * j) ∧ ∀ k, k < j → sec m k = recW xs k := by
    intro f
    induction f with
    | zero =>
      intro p hp hpx hk
      refine ⟨p, by omega, by omega, Nat.le_refl _, ?_, hk⟩
      have : stepW m (32 * p) = none := step_no1 (by rw [List.drop_eq_nil_of_le (by rw [h.len]; omega)]; decide)
      rw [scanA_none this, Nat.sub_self, List.take_zero]
    | succ f ih =>
      intro p hp hpx hk
      have hpn : p < n := by omega
      have stop : sec m p = zero32 → s ≤ p → ∃ j, s ≤ j ∧ j ≤ xs.length ∧ p ≤ j ∧ scanA m (32 * p) = ((xs.drop p).take (j - p), 32 * j) ∧ ∀ k, k < j → sec m k = recW xs k := fun hz hsp => by
        refine ⟨p, hsp, hpx, Nat.le_refl _, ?_, hk⟩
        have h5 : (m.drop (32 * p)).take 5 = [0, 0, 0, 0, 0] := by
          have e1 : (m.drop (32 * p)).take 5 = (sec m p).take 5 := by unfold sec; rw [List.take_take, Nat.min_eq_left (by omega)]
          rw [e1, hz]; rfl
        have : stepW m (32 * p) = none := step_no1 (by rw [opo_five h5]; decide)
        rw [scanA_none this, Nat.sub_self, List.take_zero]
      have go : p < xs.length → sec m p = recW xs p → ∃ j, s ≤ j ∧ j ≤ xs.length ∧ p ≤ j ∧ scanA m (32 * p) = ((xs.drop p).take (j - p), 32 * j) ∧ ∀ k, k < j → sec m k = recW xs k := fun hpx2 he => by
        have hx : (xs.getD p []).length ≤ 20 := by
          have h1 : xs.getD p [] = xs[p] := by simp [List.getD, List.getElem?_eq_getElem hpx2]
          rw [h1]; exact hs _ (List.getElem_mem hpx2)
        have e : m = m.take (32 * p) ++ (padW (xs.getD p []) ++ m.drop (32 * p + 32)) := by
          have e1 : (m.drop (32 * p)).take 32 = padW (xs.getD p []) := he
          rw [← e1, ← List.drop_drop, List.take_append_drop, List.take_append_drop]
        have hl : (m.take (32 * p)).length = 32 * p := by rw [List.length_take, h.len]; omega
        have hst := step_frame (p := m.take (32 * p)) (x := xs.getD p []) (r := m.drop (32 * p + 32)) (by rw [hl]; omega) (by omega)
        rw [← e, hl, pad_20 hx] at hst
        obtain ⟨j, h1, h2, h3, h4, h5⟩ := ih (p + 1) (by omega) hpx2 (fun k hk2 => by
          by_cases e : k = p
          · rw [e]; exact he
          · exact hk k (by omega))
        refine ⟨j, h1, h2, by omega, ?_, h5⟩
        rw [scanA_some hst, show 32 * p + 32 = 32 * (p + 1) by omega, h4]
        have e1 : xs.drop p = xs.getD p [] :: xs.drop (p + 1) := by
          have h1 : xs.getD p [] = xs[p] := by simp [List.getD, List.getElem?_eq_getElem hpx2]
          rw [h1]; exact List.drop_eq_getElem_cons hpx2
        rw [e1, show j - p = (j - (p + 1)) + 1 by omega, List.take_succ_cons]
      by_cases hps : p < s
      · exact go (by omega) (h.lo p hpn hps)
      · rcases h.hi p hpn (by omega) with hz | ⟨h1, h2⟩
        · exact stop hz (by omega)
        · exact go h1 h2
  obtain ⟨j, h1, h2, _, h4, h5⟩ := key n 0 (by omega) (Nat.zero_le _) (fun k hk => by omega)
  exact ⟨j, h1, h2, by rw [scanW_A]; simpa using h4, h5⟩
theorem ext_sec (h1 : m1.length = 32 * n) (h2 : m2.length = 32 * n) (h : ∀ k, k < n → sec m1 k = sec m2 k) : m1 = m2 := by
  refine ext_getD (d := 0) (by omega) fun j hj => ?_
  have e := h (j / 32) (by omega)
  have := (sec_eq h1 h2 (by omega)).1 e j (by omega) (by omega)
  exact this
theorem KI.opn (h : KI n d xs s) (hs : Short xs) (hsl : s ≤ xs.length) (hsn : s ≤ n) (hxn : xs.length ≤ n) : KI n (openE n d).2 xs s := by
  unfold openE
  split
  · rename_i h0
    obtain ⟨j, h1, h2, h3, _⟩ := h.now.scan hs hsl hsn hxn
    rw [rd_ok h.now.len h0]
    simp only
    rw [h3]
    simp only
    exact KI.wipe _ false h (by omega) (by omega)
  · exact h
/-- With power, and no arm, all behind the end is wiped. -/
theorem wipe_calm {b : List UInt8} : ∀ (k : Nat) {d : DS} (wr : Bool), CalmD d n → d.now.length = 32 * n → k ≤ n → (∀ t, n - k ≤ t → t < n → sec d.now t = sec b t) →
    (wipeR n b k d wr).1 = 0 ∧ CalmD (wipeR n b k d wr).2 n ∧ (wipeR n b k d wr).2.now.length = 32 * n ∧ (∀ t, t < n - k → sec (wipeR n b k d wr).2.now t = sec d.now t) ∧ ∀ t, n - k ≤ t → t < n → sec (wipeR n b k d wr).2.now t = zero32
  | 0, d, wr, hc, hl, _, _ => by
    rw [wipeR]
    split
    · obtain ⟨h1, h2, h3, h4⟩ := hc.sy
      exact ⟨h1, h4, by rw [h2]; exact hl, fun t _ => by rw [h2], fun t h1 h2 => by omega⟩
    · exact ⟨rfl, hc, hl, fun t _ => rfl, fun t h1 h2 => by omega⟩
  | k + 1, d, wr, hc, hl, hk, hb => by
    have hz : zero32.length = 32 := List.length_replicate ..
    rw [wipeR]
    split
    · rename_i h0
      obtain ⟨h1, h2, h3, h4, h5⟩ := wipe_calm (b := b) k wr hc hl (by omega) (fun t ht1 ht2 => hb t (by omega) ht2)
      refine ⟨h1, h2, h3, fun t ht => h4 t (by omega), fun t ht1 ht2 => ?_⟩
      by_cases e : t = n - (k + 1)
      · rw [h4 t (by omega), hb t ht1 ht2, e]; exact h0
      · exact h5 t (by omega) ht2
    · have hw := hc.wr (a := ((32 * (n - (k + 1)) : Nat) : Int)) (b := zero32) ⟨by omega, by omega, by rw [hz]; omega⟩
      rw [if_pos hw.1]
      have hn2 := hw.2.1
      rw [Int.toNat_natCast] at hn2
      have hl2 : (wrS n d ((32 * (n - (k + 1)) : Nat) : Int) zero32).2.now.length = 32 * n := by rw [hn2, spl_len (by rw [hz]; omega)]; exact hl
      have ho : ∀ t, t < n → t ≠ n - (k + 1) → sec (wrS n d ((32 * (n - (k + 1)) : Nat) : Int) zero32).2.now t = sec d.now t := fun t ht hne => by rw [hn2]; exact sec_spl_other hl ht (by rw [hz]; omega) (by rw [hz]; omega)
      have hsame : sec (wrS n d ((32 * (n - (k + 1)) : Nat) : Int) zero32).2.now (n - (k + 1)) = zero32 := by rw [hn2]; exact sec_spl_same hl (by omega) hz
      obtain ⟨h1, h2, h3, h4, h5⟩ := wipe_calm (b := b) k true hw.2.2.2.2 hl2 (by omega) (fun t ht1 ht2 => by rw [ho t ht2 (by omega)]; exact hb t (by omega) ht2)
      refine ⟨h1, h2, h3, fun t ht => by rw [h4 t (by omega)]; exact ho t (by omega) (by omega), fun t ht1 ht2 => ?_⟩
      by_cases e : t = n - (k + 1)
      · rw [h4 t (by omega), e]; exact hsame
      · exact h5 t (by omega) ht2
/-- Opened with power: a beginning of the byte strings, and all that was safe; then the disk holds just these. -/
theorem KI.open_calm (h : KI n d xs s) (hc : CalmD d n) (hs : Short xs) (hsl : s ≤ xs.length) (hsn : s ≤ n) (hxn : xs.length ≤ n) :
    ∃ j, s ≤ j ∧ j ≤ xs.length ∧ (openE n d).1 = 0 ∧ scanW d.now = (xs.take j, 32 * j) ∧ LogOK n (openE n d).2 (xs.take j) := by
  obtain ⟨j, h1, h2, h3, h6⟩ := h.now.scan hs hsl hsn hxn
  have hr := hc.rd h.now.len
  rw [open_good h.now.len (by rw [hr]), h3]
  simp only
  rw [show n - 32 * j / 32 = n - j by omega]
  obtain ⟨a1, a2, a3, a4, a5⟩ := wipe_calm (b := d.now) (n - j) false hc h.now.len (by omega) (fun t _ _ => rfl)
  have hsh := hs.take j
  have hfl := flat_short hsh
  rw [List.length_take, Nat.min_eq_left h2] at hfl
  refine ⟨j, h1, h2, a1, rfl, a2, ?_, by omega, fun x hx => by have := hsh x hx; omega⟩
  have hsp := SP.flat (n := n) (s := j) hs (Nat.le_refl j) h2 (by omega)
  refine ext_sec a3 hsp.len fun k hk => ?_
  by_cases e : k < j
  · rw [hsp.lo k hk e, a4 k (by omega), h6 k e]
  · rw [a5 k (by omega) hk, sec_zeros (by omega) (by omega)]
end
/-- A log as it is filled and synced: what is safe. -/
structure KL (n : Nat) (d : DS) (xs : List (List UInt8)) (l : LS) : Prop where
  log : LogOK n d xs
  lg : LgOf l xs l.s
  sh : Short xs
  le : l.s ≤ xs.length
  safe : d.safe = flatW (xs.take l.s) ++ List.replicate (32 * n - (flatW (xs.take l.s)).length) 0
  torn : d.torn = 0
section
variable {n : Nat} {d : DS} {xs : List (List UInt8)} {l l' : LS} {r : Int × DS} {x : List UInt8}
theorem KL.cnt (h : KL n d xs l) : xs.length ≤ n := by have h1 := h.log.le; rw [flat_short h.sh] at h1; omega
theorem KL.ki (h : KL n d xs l) (hok : d.Ok n) : KI n d xs l.s := by
  have hc := h.cnt
  have h1 := SP.flat (n := n) (s := l.s) h.sh (t := xs.length) h.le (Nat.le_refl _) (by omega)
  rw [List.take_length, ← h.log.now] at h1
  have h2 := SP.flat (n := n) (s := l.s) h.sh (t := l.s) (Nat.le_refl _) h.le (by have := h.le; omega)
  rw [← h.safe] at h2
  exact ⟨hok, h1, h2, h.torn, fun e => h.log.calm.arm⟩
theorem KL.new (n : Nat) (h : LgOf l [] 0) : KL n (newD n) [] l := by
  have hs := h.s
  refine ⟨log_new n, ⟨h.e, h.c, rfl⟩, fun x hx => (by simp at hx), by rw [hs]; exact Nat.zero_le _, ?_, rfl⟩
  rw [hs]; simp [newD, flatW]
theorem wr_torn {a : Int} {b : List UInt8} (hc : CalmD d n) : (wrS n d a b).2.torn = d.torn := by
  unfold wrS
  split
  · rfl
  · split
    · rfl
    · split
      · rfl
      · split
        · rfl
        · rw [hc.strk]; rfl
theorem KL.app (h : KL n d xs l) (hr : r = apE n d l x) (hl : l' = apL n d l x) (hx : x.length ≤ 20) : ∃ ys, KL n r.2 ys l' ∧ (r.1 = 0 ∧ ys = xs ++ [x] ∨ r.1 ≠ 0 ∧ ys = xs) := by
  have hp := pad_20 hx
  by_cases hf : (flatW xs).length + (padW x).length ≤ 32 * n
  · obtain ⟨h1, h2, h3⟩ := log_app h.log h.lg hr hl (by omega) hf
    refine ⟨_, ⟨h2, ⟨h3.e, h3.c, rfl⟩, fun y hy => ?_, by rw [h3.s, List.length_append]; have := h.le; omega, ?_, ?_⟩, .inl ⟨h1, rfl⟩⟩
    · rcases List.mem_append.1 hy with e | e
      · exact h.sh y e
      · rw [List.mem_singleton.1 e]; exact hx
    · have hw := h.log.calm.wr (a := (l.e : Int)) (b := padW x) ⟨by omega, by rw [h.lg.e]; omega, by rw [h.lg.e]; omega⟩
      rw [hr, apE, if_neg (by omega), hw.2.2.2.1, h3.s, List.take_append_of_le_length h.le]
      exact h.safe
    · rw [hr, apE, if_neg (by omega), wr_torn h.log.calm]; exact h.torn
  · obtain ⟨h1, h2⟩ := h.log.full h.lg.e (x := x) (by omega) hf
    subst hr
    rw [hl, h1, h2]
    exact ⟨xs, h, .inr ⟨by simp, rfl⟩⟩
theorem KL.sync (h : KL n d xs l) (hok : d.Ok n) (hr : r = syS d) (hl : l' = syL d l) : r.1 = 0 ∧ KL n r.2 xs l' := by
  obtain ⟨h1, h2, h3⟩ := log_sync h.log h.lg hr hl
  have hs := h3.s
  refine ⟨h1, h2, ⟨h3.e, h3.c, rfl⟩, h.sh, by omega, ?_, ?_⟩
  · rw [hs, List.take_length]
    have hc := h.log.calm
    by_cases ho : d.ord = []
    · rw [hr, syS_none hc.off ho]
      show d.safe = _
      rw [ext_sec hok.s hok.w (fun k hk => (hok.same k hk (by rw [ho]; simp)).symm)]
      exact h.log.now
    · rw [hr, syS_done hc.off ho (by rw [hc.strk]), hc.strk]
      exact h.log.now
  · have hc := h.log.calm
    by_cases ho : d.ord = []
    · rw [hr, syS_none hc.off ho]; exact h.torn
    · rw [hr, syS_done hc.off ho (by rw [hc.strk]), hc.strk]; exact h.torn
end
abbrev strV (b : List UInt8) : Value := .string (str b)
theorem one_strV (b : List UInt8) : (strV b).oneCell' = true := rfl
section
variable {n s : Nat} {d : DS} {xs : List (List UInt8)}
theorem KI.arm (h : KI n d xs s) (ho : d.off = false) (v : Int) (keep : List Int) : KI n (armS d v keep 0) xs s :=
  ⟨⟨h.ok.s, h.ok.w, h.ok.nd, h.ok.lt, h.ok.same⟩, h.now, h.safe, rfl, fun e => by rw [show (armS d v keep 0).off = d.off from rfl, ho] at e; cases e⟩
theorem KI.start (h : KI n d xs s) (ho : d.off = true) : KI n (stS d).2 xs s ∧ CalmD (stS d).2 n ∧ (stS d).1 = true := by
  rw [stS_on ho]
  exact ⟨⟨⟨h.ok.s, h.ok.w, h.ok.nd, h.ok.lt, h.ok.same⟩, h.now, h.safe, h.torn, fun e => by cases e⟩, ⟨rfl, h.off ho⟩, rfl⟩
theorem KI.crs (h : KI n d xs s) (ho : d.off = false) (keep : List Int) : KI n (crS d keep 0).2 xs s ∧ (crS d keep 0).2.off = true ∧ (crS d keep 0).1 = true := by
  rw [crS_on ho]
  exact ⟨h.crash keep, rfl, rfl⟩
theorem take_getD {xs : List (List UInt8)} {j i : Nat} (h : i < j) : (xs.take j).getD i [] = xs.getD i [] := by
  simp only [List.getD]; rw [List.getElem?_take, if_pos h]
end
end Go.Plain
