/-
  Own text: plain law of layer 2: frames are opened again; a frame with a bit turned is none. No program in sight.
-/
import Derived.Test.YtcgapjieidmkpaaDoorPlSum
set_option linter.unusedVariables false
namespace Go.Plain
open Go.Gx
theorem val_be4 (c : W32) : val (be4 c) = c.toNat := by
  have hc := c.isLt
  simp only [be4, b8, val_cons, val_nil, List.length_cons, List.length_nil, BitVec.toNat_ushiftRight, Nat.shiftRight_eq_div_pow, UInt8.toNat_ofNat']
  omega
theorem be4_val {a b c d : UInt8} : be4 (BitVec.ofNat 32 (val [a, b, c, d])) = [a, b, c, d] := by
  have ha := a.toNat_lt; have hb := b.toNat_lt; have hc := c.toNat_lt; have hd := d.toNat_lt
  have hv : val [a, b, c, d] = ((a.toNat * 256 + b.toNat) * 256 + c.toNat) * 256 + d.toNat := by simp [val]
  have e : ∀ (k : Nat) (x : UInt8), (val [a, b, c, d] / 2 ^ k) % 256 = x.toNat → b8 (BitVec.ofNat 32 (val [a, b, c, d])) k = x := fun k x h => by
    apply UInt8.toNat_inj.1
    simp only [b8, BitVec.toNat_ushiftRight, Nat.shiftRight_eq_div_pow, BitVec.toNat_ofNat, UInt8.toNat_ofNat']
    rw [Nat.mod_eq_of_lt (show val [a, b, c, d] < 2 ^ 32 by omega)]
    exact h
  simp only [be4]
  rw [e 24 a (by omega), e 16 b (by omega), e 8 c (by omega), e 0 d (by omega)]
theorem four_cases {l : List UInt8} (h : l.length = 4) : ∃ a b c d, l = [a, b, c, d] := by
  rcases l with _ | ⟨a, _ | ⟨b, _ | ⟨c, _ | ⟨d, _ | ⟨e, r⟩⟩⟩⟩⟩ <;> simp at h
  exact ⟨a, b, c, d, rfl⟩
theorem be4_iff {l : List UInt8} (h : l.length = 4) (c : W32) : BitVec.ofNat 32 (val l) = c ↔ be4 c = l := by
  obtain ⟨x, y, z, u, rfl⟩ := four_cases h
  constructor
  · rintro rfl; exact be4_val
  · intro e; rw [← e, val_be4]; simp
theorem or32 {n : Nat} {x : UInt8} (h : n < 16777216) : (BitVec.ofNat 32 n <<< 8 ||| BitVec.ofNat 32 x.toNat) = BitVec.ofNat 32 (n * 256 + x.toNat) := by
  have hx := x.toNat_lt
  apply BitVec.eq_of_toNat_eq
  rw [BitVec.toNat_or, BitVec.toNat_shiftLeft, BitVec.toNat_ofNat, BitVec.toNat_ofNat, BitVec.toNat_ofNat, Nat.mod_eq_of_lt (show n < 2 ^ 32 by omega), Nat.mod_eq_of_lt (show x.toNat < 2 ^ 32 by omega), Nat.mod_eq_of_lt (show n * 256 + x.toNat < 2 ^ 32 by omega), Nat.shiftLeft_eq, Nat.mod_eq_of_lt (show n * 2 ^ 8 < 2 ^ 32 by omega)]
  have := Nat.shiftLeft_add_eq_or_of_lt (i := 8) (b := x.toNat) (by simpa using hx) n
  rw [Nat.shiftLeft_eq] at this
  rw [← this]
theorem val32_step {l : List UInt8} {k : Nat} (h : k < l.length) (h4 : l.length = 4) : (BitVec.ofNat 32 (val (l.take k)) <<< 8 ||| BitVec.ofNat 32 (l.getD k 0).toNat) = BitVec.ofNat 32 (val (l.take (k + 1))) := by
  rw [val_take_succ h, or32]
  have h1 := val_lt (l.take k)
  have h2 : 256 ^ (l.take k).length ≤ 256 ^ 3 := Nat.pow_le_pow_right (by omega) (by rw [List.length_take]; omega)
  have h3 : (256 : Nat) ^ 3 = 16777216 := rfl
  omega
def opn (b : List UInt8) : Option (List UInt8 × Nat) :=
  match gn b with
  | none => none
  | some (n, k) => if 8192 < n ∨ b.length - k < n + 4 then none
    else if be4 (crc (b.take (k + n))) = (b.drop (k + n)).take 4 then some ((b.drop k).take n, k + n + 4) else none
def opx (b : List UInt8) : List UInt8 := ((opn b).getD ([], 0)).1
def opk (b : List UInt8) : Nat := ((opn b).getD ([], 0)).2
def opo (b : List UInt8) : Bool := (opn b).isSome
theorem op_none {b : List UInt8} (h : opn b = none) : opx b = [] ∧ opk b = 0 ∧ opo b = false := by simp [opx, opk, opo, h]
theorem op_some {b l : List UInt8} {k : Nat} (h : opn b = some (l, k)) : opx b = l ∧ opk b = k ∧ opo b = true := by simp [opx, opk, opo, h]
theorem opn_0 {b : List UInt8} (h : (!gno b) = true) : opn b = none := by unfold opn; rw [gn_not h]
theorem opn_1 {b : List UInt8} (h : gno b = true) (h2 : 8192 < gnv b ∨ b.length - gnk b < gnv b + 4) : opn b = none := by
  unfold opn; rw [gn_of h]; simp only []; rw [if_pos h2]
theorem opn_2 {b : List UInt8} (h : gno b = true) (h2 : ¬ (8192 < gnv b ∨ b.length - gnk b < gnv b + 4)) (h3 : ¬ be4 (crc (b.take (gnk b + gnv b))) = (b.drop (gnk b + gnv b)).take 4) : opn b = none := by
  unfold opn; rw [gn_of h]; simp only []; rw [if_neg h2, if_neg h3]
theorem opn_3 {b : List UInt8} (h : gno b = true) (h2 : ¬ (8192 < gnv b ∨ b.length - gnk b < gnv b + 4)) (h3 : be4 (crc (b.take (gnk b + gnv b))) = (b.drop (gnk b + gnv b)).take 4) : opn b = some ((b.drop (gnk b)).take (gnv b), gnk b + gnv b + 4) := by
  unfold opn; rw [gn_of h]; simp only []; rw [if_neg h2, if_pos h3]
theorem opx_len (b : List UInt8) : (opx b).length ≤ b.length := by
  unfold opx opn
  cases h : gn b with
  | none => simp
  | some p =>
    simp only []
    split
    · simp
    · split
      · simp; omega
      · simp
theorem gn_ext {b : List UInt8} {n k : Nat} (h : gn b = some (n, k)) (r : List UInt8) : gn (b ++ r) = some (n, k) := by
  have h1 := enc_gn h
  have h2 := gn_le h
  have e : b = encN n ++ b.drop k := by rw [h1, List.take_append_drop]
  have hl : (encN n).length = k := by rw [h1, List.length_take]; omega
  rw [e, List.append_assoc, gn_enc h2.2.1, hl]
theorem opn_frame {b : List UInt8} (h : b.length ≤ 8192) (r : List UInt8) : opn (frame b ++ r) = some (b, (frame b).length) := by
  have hf := frame_at (b := b) rfl h
  have hl := frame_len (b := b) rfl h
  have hg : gn (frame b ++ r) = some (b.length, (encN b.length).length) := by rw [hf, List.append_assoc, List.append_assoc, gn_enc (by omega)]
  unfold opn
  rw [hg]
  simp only []
  rw [if_neg (by rw [List.length_append, hl]; omega)]
  have e1 : (frame b ++ r).take ((encN b.length).length + b.length) = encN b.length ++ b := by
    rw [hf, List.append_assoc, List.take_left' (by rw [List.length_append])]
  have e2 : ((frame b ++ r).drop ((encN b.length).length + b.length)).take 4 = be4 (crc (encN b.length ++ b)) := by
    rw [hf, List.append_assoc, List.drop_left' (by rw [List.length_append])]; exact List.take_left' rfl
  have e3 : ((frame b ++ r).drop (encN b.length).length).take b.length = b := by
    rw [hf, List.append_assoc, List.append_assoc, List.drop_left' rfl, List.take_left' rfl]
  rw [e1, e2, if_pos rfl, e3, hl]
theorem opn_cut {b : List UInt8} (h : b.length ≤ 8192) {j : Nat} (hj : j < (frame b).length) : opn ((frame b).take j) = none := by
  have hf := frame_at (b := b) rfl h
  have hl := frame_len (b := b) rfl h
  have hg : gn (frame b) = some (b.length, (encN b.length).length) := by rw [hf, List.append_assoc, gn_enc (by omega)]
  unfold opn
  cases hc : gn ((frame b).take j) with
  | none => rfl
  | some p =>
    obtain ⟨n, k⟩ := p
    have h1 := gn_ext hc ((frame b).drop j)
    rw [List.take_append_drop, hg] at h1
    injection h1 with h1; injection h1 with h2 h3
    simp only []
    rw [if_pos (by rw [List.length_take]; omega)]
/-! ### A bit turned -/
theorem stp_inj0 {s : W32} (h : stp s = 0#32) : s = 0#32 := by
  unfold stp at h
  cases hb : s.getLsbD 0 with
  | true =>
    rw [hb, if_pos rfl] at h
    have h1 := congrArg (fun x : W32 => x.getLsbD 31) h
    simp only [BitVec.getLsbD_xor, BitVec.getLsbD_ushiftRight] at h1
    rw [BitVec.getLsbD_of_ge s (1 + 31) (by omega)] at h1
    exact absurd h1 (by decide)
  | false =>
    rw [hb, if_neg (by simp)] at h
    apply BitVec.eq_of_getLsbD_eq
    intro j hj
    rcases j with _ | j
    · rw [hb]; simp
    · have h1 := congrArg (fun x : W32 => x.getLsbD j) h
      simp only [BitVec.getLsbD_ushiftRight] at h1
      rw [Nat.add_comm j 1, h1]; simp
theorem pw_inj0 {s : W32} : ∀ {i : Nat}, pw i s = 0#32 → s = 0#32
  | 0, h => h
  | i + 1, h => pw_inj0 (stp_inj0 h)
/-- Bytes that differ at one place have other sums. -/
theorem crc_set {f : List UInt8} {i : Nat} {x : UInt8} (hi : i < f.length) (hx : x ≠ f.getD i 0) : crc (f.set i x) ≠ crc f := by
  intro h
  have e1 : f.set i x = f.take i ++ x :: f.drop (i + 1) := List.set_eq_take_append_cons_drop.trans (if_pos hi)
  have e2 : f = f.take i ++ f.getD i 0 :: f.drop (i + 1) := by
    have e : f.getD i 0 = f[i] := by simp [List.getD, List.getElem?_eq_getElem hi]
    rw [e, ← List.drop_eq_getElem_cons hi, List.take_append_drop]
  rw [e1] at h
  conv at h => rhs; rw [e2]
  unfold crc crcAdd at h
  have h2 := congrArg (fun s => ~~~ s) h
  simp only [BitVec.not_not] at h2
  rw [crcF_append, crcF_append] at h2
  have e3 : ∀ (s : W32) (y : UInt8) (l : List UInt8), crcF s (y :: l) = crcF (upd s y) l := fun _ _ _ => rfl
  rw [e3, e3] at h2
  have h3 : ∀ (s t : W32) (l : List UInt8), crcF s l = crcF t l → s = t := fun s t l hst => by
    have hh := crcF_xor (s ^^^ t) t l
    rw [BitVec.xor_assoc, BitVec.xor_self, BitVec.xor_zero, hst] at hh
    have h4 : pw (8 * l.length) (s ^^^ t) = 0#32 := by
      have := congrArg (fun z => z ^^^ crcF t l) hh
      simp only [BitVec.xor_self, BitVec.xor_assoc, BitVec.xor_zero] at this
      exact this.symm
    have h5 := pw_inj0 h4
    have := congrArg (fun z => z ^^^ t) h5
    simp only [BitVec.xor_assoc, BitVec.xor_self, BitVec.xor_zero, BitVec.zero_xor] at this
    exact this
  have h6 := h3 _ _ _ h2
  unfold upd at h6
  have h7 : pw 8 ((crcF (~~~ 0#32) (f.take i) ^^^ BitVec.ofNat 32 x.toNat) ^^^ (crcF (~~~ 0#32) (f.take i) ^^^ BitVec.ofNat 32 (f.getD i 0).toNat)) = 0#32 := by rw [pw_xor, h6, BitVec.xor_self]
  have h8 := pw_inj0 h7
  have h9 : BitVec.ofNat 32 x.toNat = BitVec.ofNat 32 (f.getD i 0).toNat := by
    have := congrArg (fun z => z ^^^ (crcF (~~~ 0#32) (f.take i) ^^^ BitVec.ofNat 32 (f.getD i 0).toNat)) h8
    simp only [BitVec.xor_assoc, BitVec.xor_self, BitVec.xor_zero, BitVec.zero_xor] at this
    have h10 := congrArg (fun z => crcF (~~~ 0#32) (f.take i) ^^^ z) this
    simp only [← BitVec.xor_assoc, BitVec.xor_self, BitVec.zero_xor] at h10
    exact h10
  have h11 := congrArg BitVec.toNat h9
  rw [BitVec.toNat_ofNat, BitVec.toNat_ofNat] at h11
  have hx1 := x.toNat_lt; have hx2 := (f.getD i 0).toNat_lt
  exact hx (UInt8.toNat_inj.1 (by omega))
/-- A frame that is opened whole ends with the sum of what stands ahead. -/
theorem op_whole {f l : List UInt8} (h : opn f = some (l, f.length)) : f = f.take (f.length - 4) ++ be4 (crc (f.take (f.length - 4))) ∧ 4 ≤ f.length := by
  unfold opn at h
  cases hg : gn f with
  | none => simp [hg] at h
  | some p =>
    obtain ⟨n, k⟩ := p
    simp only [hg] at h
    split at h
    · cases h
    · rename_i h1
      split at h
      · rename_i h2
        have h3 := congrArg (fun o => (o.getD ([], 0)).2) h
        simp only [Option.getD_some] at h3
        have e : k + n = f.length - 4 := by omega
        rw [e] at h2
        refine ⟨?_, by omega⟩
        have e2 : (f.drop (f.length - 4)).take 4 = f.drop (f.length - 4) := List.take_of_length_le (by rw [List.length_drop]; omega)
        rw [h2, e2, List.take_append_drop]
      · cases h
theorem frame_cells4 (x : List UInt8) (s : W32) : (([] ++ x) ++ [UInt8.ofNat (s >>> 24).toNat, UInt8.ofNat (s >>> 16).toNat, UInt8.ofNat (s >>> 8).toNat, UInt8.ofNat s.toNat]).map u8v = (x ++ be4 s).map u8v := by
  simp [be4, b8]
/-- The first i of four bytes. -/
theorem be4_get {s : W32} {i : Nat} (h : i < 4) : (be4 s).getD i 0 = b8 s (24 - 8 * i) := by
  rcases i with _ | _ | _ | _ | i
  · rfl
  · rfl
  · rfl
  · rfl
  · omega
theorem be4_len (s : W32) : (be4 s).length = 4 := rfl
theorem take_next {p q : List UInt8} {k : Nat} (hp : k < p.length) (hq : k < q.length) (h : p.take k = q.take k) (e : p.getD k 0 = q.getD k 0) : p.take (k + 1) = q.take (k + 1) := by
  rw [List.take_succ_eq_append_getElem hp, List.take_succ_eq_append_getElem hq, h]
  simp [List.getD, List.getElem?_eq_getElem hp, List.getElem?_eq_getElem hq] at e
  rw [e]
theorem get_drop {b : List UInt8} {a i : Nat} (h : i < 4) : ((b.drop a).take 4).getD i 0 = b.getD (a + i) 0 := by
  rw [List.getD, List.getD, List.getElem?_take, if_pos h, List.getElem?_drop]
theorem drop_eq {f p q : List UInt8} {n : Nat} (h : f = p ++ q) (hl : p.length = n) : f.drop n = q := by rw [h]; exact List.drop_left' hl
theorem flip_none {b : List UInt8} {i : Nat} {x : UInt8} (h : b.length ≤ 8192) (hi : i < (frame b).length) (hx : x ≠ (frame b).getD i 0) : opk ((frame b).set i x) ≠ (frame b).length ∨ opo ((frame b).set i x) = false := by
  cases ho : opn ((frame b).set i x) with
  | none => exact .inr (op_none ho).2.2
  | some p =>
    left
    obtain ⟨l, k⟩ := p
    rw [(op_some ho).2.1]
    rintro rfl
    have hls : ((frame b).set i x).length = (frame b).length := List.length_set
    rw [← hls] at ho
    obtain ⟨h1, h4⟩ := op_whole ho
    have h0 := opn_frame h []
    rw [List.append_nil] at h0
    obtain ⟨h2, h5⟩ := op_whole h0
    rw [hls] at h1 h4
    by_cases hc : i < (frame b).length - 4
    · have e1 : ((frame b).set i x).take ((frame b).length - 4) = ((frame b).take ((frame b).length - 4)).set i x := by rw [List.take_set]
      have e2 : ((frame b).set i x).drop ((frame b).length - 4) = (frame b).drop ((frame b).length - 4) := List.drop_set_of_lt hc
      have e3 : ((frame b).set i x).drop ((frame b).length - 4) = be4 (crc (((frame b).set i x).take ((frame b).length - 4))) := by
        exact drop_eq h1 (by rw [List.length_take, hls]; omega)
      have e4 : (frame b).drop ((frame b).length - 4) = be4 (crc ((frame b).take ((frame b).length - 4))) := drop_eq h2 (by rw [List.length_take]; omega)
      rw [e2, e4, e1] at e3
      have e5 := congrArg val e3
      rw [val_be4, val_be4] at e5
      refine crc_set (f := (frame b).take ((frame b).length - 4)) (i := i) (x := x) (by rw [List.length_take]; omega) ?_ (BitVec.eq_of_toNat_eq e5.symm)
      rw [show ((frame b).take ((frame b).length - 4)).getD i 0 = (frame b).getD i 0 by rw [List.getD, List.getD, List.getElem?_take, if_pos hc]]; exact hx
    · have e1 : ((frame b).set i x).take ((frame b).length - 4) = (frame b).take ((frame b).length - 4) := by
        rw [List.take_set, List.set_eq_of_length_le (by rw [List.length_take]; omega)]
      rw [e1, ← h2] at h1
      have h7 := congrArg (fun f : List UInt8 => f[i]?) h1
      simp only [List.getElem?_set_self hi, List.getElem?_eq_getElem hi] at h7
      injection h7 with h7
      rw [show (frame b).getD i 0 = (frame b)[i] by simp [List.getD, List.getElem?_eq_getElem hi]] at hx
      exact hx h7
end Go.Plain
