/-
  Own text: plain: a disk that holds a log: byte strings framed by whole sectors, and noughts behind; what is appended, opened, synced there.
-/
import Derived.Test.YtcgapjieidmkpaaDoorPlWal
set_option linter.unusedVariables false
namespace Go.Plain
open Go.Gx
def flatW (xs : List (List UInt8)) : List UInt8 := (xs.map padW).flatten
theorem flatW_snoc (xs : List (List UInt8)) (x : List UInt8) : flatW (xs ++ [x]) = flatW xs ++ padW x := by simp [flatW]
theorem padW_mod (x : List UInt8) : (padW x).length % 32 = 0 := by rw [padW_len]; exact up32_mod _
theorem flatW_mod : ∀ xs : List (List UInt8), (flatW xs).length % 32 = 0
  | [] => rfl
  | x :: r => by
    have h1 := flatW_mod r
    have h2 := padW_mod x
    rw [flatW, List.map_cons, List.flatten_cons, List.length_append]
    unfold flatW at h1
    omega
theorem frame_pos {x : List UInt8} (h : x.length ≤ 8192) : 5 ≤ (frame x).length := by
  rw [frame_len rfl h]
  have := encN_pos x.length
  omega
theorem padW_pos {x : List UInt8} (h : x.length ≤ 8192) : 32 ≤ (padW x).length := by
  rw [padW_len]
  have := frame_pos h
  have := up32_ge (frame x).length
  have := up32_mod (frame x).length
  omega
theorem nul_rep (m : Nat) : nul (List.replicate m 0) = true := nul_yes (fun j hj => by simp [List.getD, List.getElem?_replicate]; split <;> rfl)
theorem step_frame {p x r : List UInt8} (hp : p.length % 32 = 0) (h : x.length ≤ 8192) : stepW (p ++ (padW x ++ r)) p.length = some (x, p.length + (padW x).length) := by
  have hd : (p ++ (padW x ++ r)).drop p.length = frame x ++ (List.replicate (up32 (frame x).length - (frame x).length) 0 ++ r) := by
    rw [List.drop_left, padW, List.append_assoc]
  obtain ⟨e1, e2, e3⟩ := op_some (opn_frame h (List.replicate (up32 (frame x).length - (frame x).length) 0 ++ r))
  have hl := padW_len x
  have hge := up32_ge (frame x).length
  have hup : up32 (p.length + (frame x).length) = p.length + (padW x).length := by rw [hl]; unfold up32; omega
  have h1 : opo ((p ++ (padW x ++ r)).drop p.length) = true := by rw [hd]; exact e3
  have hk : opk ((p ++ (padW x ++ r)).drop p.length) = (frame x).length := by rw [hd]; exact e2
  have hx : opx ((p ++ (padW x ++ r)).drop p.length) = x := by rw [hd]; exact e1
  rw [step_yes h1 (by rw [hk, hup, List.length_append, List.length_append]; omega) ?_, hx, hk, hup]
  rw [hk, hup]
  have e : (p ++ (padW x ++ r)).drop (p.length + (frame x).length) = List.replicate (up32 (frame x).length - (frame x).length) 0 ++ r := by
    rw [← List.drop_drop, hd, List.drop_left]
  rw [e, List.take_left' (by rw [List.length_replicate]; omega)]
  exact nul_rep _
theorem crc0 : be4 (crc [0]) ≠ [0, 0, 0, 0] := by decide +kernel
theorem opo_zero (m : Nat) : opo (List.replicate m 0) = false := by
  cases he : opn (List.replicate m 0) with
  | none => exact (op_none he).2.2
  | some q =>
    exfalso
    rcases Nat.lt_or_ge m 5 with h | h
    · have : m = 0 ∨ m = 1 ∨ m = 2 ∨ m = 3 ∨ m = 4 := by omega
      rcases this with rfl | rfl | rfl | rfl | rfl <;> revert he <;> decide +revert +kernel
    · obtain ⟨t, rfl⟩ : ∃ t, m = 5 + t := ⟨m - 5, by omega⟩
      have hg : gn (List.replicate (5 + t) 0) = some (0, 1) := by
        rw [← List.replicate_append_replicate]
        exact gn_ext (b := List.replicate 5 0) (by decide +kernel) _
      have h0 : gno (List.replicate (5 + t) 0) = true := by simp [gno, hg]
      have hv : gnv (List.replicate (5 + t) 0) = 0 := by simp [gnv, hg]
      have hk : gnk (List.replicate (5 + t) 0) = 1 := by simp [gnk, hg]
      rw [opn_2 h0 (by rw [hv, hk, List.length_replicate]; omega) ?_] at he
      · cases he
      · rw [hv, hk]
        intro h
        refine crc0 ?_
        have e1 : (List.replicate (5 + t) (0 : UInt8)).take (1 + 0) = [0] := by rw [List.take_replicate, Nat.min_eq_left (by omega)]; rfl
        have e2 : ((List.replicate (5 + t) (0 : UInt8)).drop (1 + 0)).take 4 = [0, 0, 0, 0] := by rw [List.drop_replicate, List.take_replicate, Nat.min_eq_left (by omega)]; rfl
        rw [e1, e2] at h
        exact h
theorem step_zero (p : List UInt8) (m : Nat) : stepW (p ++ List.replicate m 0) p.length = none := by
  refine step_no1 ?_
  rw [List.drop_left, opo_zero]
  decide
theorem scanA_log {m : Nat} : ∀ (xs : List (List UInt8)) (p : List UInt8), p.length % 32 = 0 → (∀ x ∈ xs, x.length ≤ 8192) → scanA (p ++ (flatW xs ++ List.replicate m 0)) p.length = (xs, p.length + (flatW xs).length)
  | [], p, hp, _ => by
    have : flatW [] = [] := rfl
    rw [this, List.nil_append, scanA_none (step_zero p m)]
    simp
  | x :: r, p, hp, hx => by
    have e : flatW (x :: r) = padW x ++ flatW r := by simp [flatW]
    have hs := step_frame (p := p) (x := x) (r := flatW r ++ List.replicate m 0) hp (hx x (by simp))
    have ih := scanA_log (m := m) r (p ++ padW x) (by rw [List.length_append]; have := padW_mod x; omega) (fun y hy => hx y (by simp [hy]))
    rw [e, List.append_assoc, scanA_some hs]
    rw [List.length_append, List.append_assoc] at ih
    rw [ih]
    simp [List.length_append, Nat.add_assoc]
theorem scanW_log {m : Nat} {xs : List (List UInt8)} (hx : ∀ x ∈ xs, x.length ≤ 8192) : scanW (flatW xs ++ List.replicate m 0) = (xs, (flatW xs).length) := by
  have := scanA_log (m := m) xs [] rfl hx
  rw [scanW_A]
  simpa using this
/-- A disk that holds a log. -/
structure LogOK (n : Nat) (d : DS) (xs : List (List UInt8)) : Prop where
  calm : CalmD d n
  now : d.now = flatW xs ++ List.replicate (32 * n - (flatW xs).length) 0
  le : (flatW xs).length ≤ 32 * n
  all : ∀ x ∈ xs, x.length ≤ 8192
section
variable {n : Nat} {d : DS} {xs : List (List UInt8)}
theorem log_new (n : Nat) : LogOK n (newD n) [] := ⟨calm_new n, by simp [newD, flatW], by simp [flatW], by simp⟩
theorem LogOK.len (h : LogOK n d xs) : d.now.length = 32 * n := by rw [h.now, List.length_append, List.length_replicate]; have := h.le; omega
theorem LogOK.scan (h : LogOK n d xs) : scanW d.now = (xs, (flatW xs).length) := by rw [h.now]; exact scanW_log h.all
theorem LogOK.zeros (h : LogOK n d xs) {s : Nat} (h1 : (flatW xs).length / 32 ≤ s) (h2 : s < n) : sec d.now s = zero32 := by
  have hm := flatW_mod xs
  have hle := h.le
  unfold sec
  rw [h.now, List.drop_append, List.drop_eq_nil_of_le (by omega), List.nil_append, List.drop_replicate, List.take_replicate, zero32, Nat.min_eq_left (by omega)]
theorem wipe_none {b : List UInt8} : ∀ (k : Nat) (d : DS), k ≤ n → (∀ s, n - k ≤ s → s < n → sec b s = zero32) → wipeR n b k d false = (0, d)
  | 0, d, _, _ => rfl
  | k + 1, d, hk, hz => by
    rw [wipeR, if_pos (hz _ (by omega) (by omega))]
    exact wipe_none k d (by omega) (fun s h1 h2 => hz s (by omega) h2)
theorem LogOK.open (h : LogOK n d xs) : openE n d = (0, d) := by
  have hr := h.calm.rd h.len
  rw [open_good h.len (by rw [hr]), h.scan]
  have := h.le
  exact wipe_none _ _ (by omega) (fun s h1 h2 => h.zeros (by simp only at h1; omega) h2)
theorem LogOK.app {x : List UInt8} {l : LS} (h : LogOK n d xs) (hl : l.e = (flatW xs).length) (hx : x.length ≤ 8192) (hf : (flatW xs).length + (padW x).length ≤ 32 * n) :
    (apE n d l x).1 = 0 ∧ LogOK n (apE n d l x).2 (xs ++ [x]) ∧ apL n d l x = ⟨(flatW (xs ++ [x])).length, l.c + 1, l.s⟩ := by
  have hw := h.calm.wr (a := (l.e : Int)) (b := padW x) ⟨by omega, by rw [hl]; omega, by rw [hl]; omega⟩
  have he : apE n d l x = wrS n d (l.e : Int) (padW x) := by rw [apE, if_neg (by omega)]
  have hap := ap_ok (n := n) (d := d) (l := l) (b := x) (by omega) hw.1
  refine ⟨by rw [he]; exact hw.1, ?_, by rw [hap.2, flatW_snoc, List.length_append, hl]⟩
  rw [he]
  refine ⟨hw.2.2.2.2, ?_, by rw [flatW_snoc, List.length_append]; exact hf, fun y hy => by rcases List.mem_append.1 hy with h1 | h1; exact h.all y h1; rw [List.mem_singleton.1 h1]; exact hx⟩
  rw [hw.2.1, Int.toNat_natCast, hl, h.now, spl, List.take_left, flatW_snoc, List.append_assoc, List.append_assoc]
  congr 1
  rw [List.drop_append, List.drop_eq_nil_of_le (by omega), List.nil_append, List.drop_replicate, List.length_append]
  congr 2
  omega
theorem LogOK.full {x : List UInt8} {l : LS} (h : LogOK n d xs) (hl : l.e = (flatW xs).length) (hx : x.length ≤ 8192) (hf : ¬ (flatW xs).length + (padW x).length ≤ 32 * n) : apE n d l x = (6, d) ∧ apL n d l x = l := by
  have he : wrS n d (l.e : Int) (padW x) = (6, d) := wrS_full h.calm.off (by omega) (by rw [hl]; omega)
  have := ap_err (n := n) (d := d) (l := l) (b := x) (by omega) (by rw [he]; exact fun h => by cases h)
  exact ⟨this.1.trans he, this.2⟩
theorem LogOK.long {x : List UInt8} {l : LS} (hx : 8192 < x.length) : apE n d l x = (12, d) ∧ apL n d l x = l := ap_long hx
theorem LogOK.sync {l : LS} (h : LogOK n d xs) : (syS d).1 = 0 ∧ LogOK n (syS d).2 xs ∧ syL d l = ⟨l.e, l.c, l.c⟩ := by
  obtain ⟨h1, h2, h3, h4⟩ := h.calm.sy
  exact ⟨h1, ⟨h4, h2.trans h.now, h.le, h.all⟩, by rw [syL, if_pos h1]⟩
end
/-- How long a frame of few bytes is, in sectors. -/
theorem pad_small {x : List UInt8} (h : x.length < 248) : (padW x).length = (x.length + 5 + 31) / 32 * 32 := by
  rw [padW_len, frame_len rfl (by omega), encN_small (by omega)]
  unfold up32
  simp only [List.length_cons, List.length_nil]
  omega
theorem encN_two {x : Nat} (h : 248 ≤ x) (h2 : x ≤ 8192) : (encN x).length ≤ 3 := by
  rw [encN_great h, List.length_cons]
  have : ∀ y, y < 65536 → (be y).length ≤ 2 := fun y hy => by
    rcases Nat.eq_zero_or_pos y with h0 | h0
    · subst h0; rw [be_zero]; simp
    · rw [be_pos h0]
      rcases Nat.eq_zero_or_pos (y / 256) with h1 | h1
      · rw [h1, be_zero]; simp
      · rw [be_pos h1, show y / 256 / 256 = 0 by omega, be_zero]; simp
  have := this x (by omega)
  omega
theorem pad_long {x : List UInt8} (h : x.length ≤ 8192) : (padW x).length ≤ 8224 := by
  rw [padW_len, frame_len rfl h]
  have : (encN x.length).length ≤ 3 := by
    rcases Nat.lt_or_ge x.length 248 with h1 | h1
    · rw [encN_small h1]; simp
    · exact encN_two h1 h
  unfold up32
  omega
/-- How a log's record tells of it. -/
structure LgOf (l : LS) (xs : List (List UInt8)) (s : Nat) : Prop where
  e : l.e = (flatW xs).length
  c : l.c = xs.length
  s : l.s = s
section
variable {n : Nat} {d : DS} {xs : List (List UInt8)} {l l' : LS} {r : Int × DS} {x : List UInt8} {s : Nat}
theorem log_open {d : DS} (h : LogOK n d xs) (hr : r = openE n d) : r = (0, d) := hr.trans h.open
theorem lg_open {q : Nat} (h : LogOK n d xs) (hl : l = ⟨(scanW d.now).2, q, q⟩) (hq : (scanW d.now).1.length = q) : LgOf l xs xs.length ∧ q = xs.length := by
  rw [h.scan] at hl hq
  simp only at hq hl
  subst hl
  exact ⟨⟨rfl, hq.symm, hq.symm⟩, hq.symm⟩
theorem log_app (h : LogOK n d xs) (g : LgOf l xs s) (hr : r = apE n d l x) (hl : l' = apL n d l x) (hx : x.length ≤ 8192) (hf : (flatW xs).length + (padW x).length ≤ 32 * n) : r.1 = 0 ∧ LogOK n r.2 (xs ++ [x]) ∧ LgOf l' (xs ++ [x]) s := by
  obtain ⟨h1, h2, h3⟩ := h.app g.e hx hf
  subst hr
  rw [hl, h3]
  exact ⟨h1, h2, rfl, by show l.c + 1 = _; rw [g.c]; simp, g.s⟩
theorem log_full (h : LogOK n d xs) (g : LgOf l xs s) (hr : r = apE n d l x) (hl : l' = apL n d l x) (hx : x.length ≤ 8192) (hf : ¬ (flatW xs).length + (padW x).length ≤ 32 * n) : r.1 = 6 ∧ LogOK n r.2 xs ∧ LgOf l' xs s := by
  obtain ⟨h1, h2⟩ := h.full g.e hx hf
  rw [hr, hl, h1, h2]
  exact ⟨rfl, h, g⟩
theorem log_long (h : LogOK n d xs) (g : LgOf l xs s) (hr : r = apE n d l x) (hl : l' = apL n d l x) (hx : 8192 < x.length) : r.1 = 12 ∧ LogOK n r.2 xs ∧ LgOf l' xs s := by
  obtain ⟨h1, h2⟩ := ap_long (n := n) (d := d) (l := l) hx
  rw [hr, hl, h1, h2]
  exact ⟨rfl, h, g⟩
theorem log_sync (h : LogOK n d xs) (g : LgOf l xs s) (hr : r = syS d) (hl : l' = syL d l) : r.1 = 0 ∧ LogOK n r.2 xs ∧ LgOf l' xs xs.length := by
  obtain ⟨h1, h2, h3⟩ := h.sync (l := l)
  rw [hr, hl, h3]
  exact ⟨h1, h2, g.e, g.c, g.c⟩
theorem long_first {m : Nat} (hm : m ≤ 8196) (g : LgOf l [] s) (hr : r = apE 800 (newD 800) l (List.replicate m 0)) (hl : l' = apL 800 (newD 800) l (List.replicate m 0)) :
    ∃ ys, LogOK 800 r.2 ys ∧ LgOf l' ys s ∧ ys.length = (if m ≤ 8192 then 1 else 0) ∧ (flatW ys).length ≤ 8224 ∧ r.1 = if m ≤ 8192 then 0 else 12 := by
  by_cases h : m ≤ 8192
  · have hp := pad_long (x := List.replicate m 0) (by simpa using h)
    obtain ⟨h1, h2, h3⟩ := log_app (log_new 800) g hr hl (by simpa using h) (by rw [show (flatW []).length = 0 from rfl]; omega)
    exact ⟨_, h2, h3, by rw [if_pos h]; rfl, by rw [flatW_snoc, List.length_append, show (flatW []).length = 0 from rfl]; omega, by rw [if_pos h]; exact h1⟩
  · obtain ⟨h1, h2, h3⟩ := log_long (log_new 800) g hr hl (by rw [List.length_replicate]; omega)
    exact ⟨_, h2, h3, by rw [if_neg h]; rfl, by rw [show (flatW []).length = 0 from rfl]; omega, by rw [if_neg h]; exact h1⟩
end
section
variable {n : Nat} {d : DS} {xs : List (List UInt8)} {l l' : LS} {r : Int × DS} {x : List UInt8} {s : Nat}
theorem log_any (h : LogOK n d xs) (g : LgOf l xs s) (hr : r = apE n d l x) (hl : l' = apL n d l x) (hx : x.length ≤ 8192) :
    ∃ ys, LogOK n r.2 ys ∧ LgOf l' ys s ∧ (r.1 = 0 ∧ (flatW xs).length + (padW x).length ≤ 32 * n ∧ ys = xs ++ [x] ∨ r.1 = 6 ∧ ¬ (flatW xs).length + (padW x).length ≤ 32 * n ∧ ys = xs) := by
  by_cases hf : (flatW xs).length + (padW x).length ≤ 32 * n
  · obtain ⟨h1, h2, h3⟩ := log_app h g hr hl hx hf
    exact ⟨_, h2, h3, .inl ⟨h1, hf, rfl⟩⟩
  · obtain ⟨h1, h2, h3⟩ := log_full h g hr hl hx hf
    exact ⟨_, h2, h3, .inr ⟨h1, hf, rfl⟩⟩
end
def bts (s : ByteArray) : List UInt8 := s.data.toList
theorem bts_len (s : ByteArray) : (bts s).length = s.size := by rw [bts, Array.length_toList]; rfl
theorem bts_snoc (ws : List ByteArray) (s : ByteArray) : (ws ++ [s]).map bts = ws.map bts ++ [bts s] := by simp
theorem bts_getD {ws : List ByteArray} {j : Nat} (h : j < ws.length) : (ws.map bts).getD j [] = bts (ws.getD j ByteArray.empty) := by simp [List.getD, List.getElem?_map, List.getElem?_eq_getElem h]
theorem bts_str (s : ByteArray) : (!((Go.Gx.str (bts s)).toList == s.toList)) = false := by
  have e : Go.Gx.str (bts s) = s := str_of s
  rw [e, beq_self_eq_true]; rfl
theorem take_snocB {q : List ByteArray} {i : Nat} (h : i < q.length) : q.take (i + 1) = q.take i ++ [q.getD i ByteArray.empty] := by
  rw [List.take_succ_eq_append_getElem h]
  simp [List.getD, List.getElem?_eq_getElem h]
end Go.Plain
