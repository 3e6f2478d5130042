/-
  Own text: guards, splits, slices of one kind of element, local arrays, small variables in memory, results.
-/
import Derived.Test.YtkfkdakghjlenaaDoorGxEff
import Derived.Test.YtkfkdakghjlenaaDoorGxDraw
set_option linter.unusedSimpArgs false
set_option linter.unusedVariables false
namespace Go.Gx
open Go.RowKit

theorem of_not_dec_true {p : Prop} [Decidable p] (h : (!decide p) = true) : ¬ p := by simpa using h
theorem of_not_dec_false {p : Prop} [Decidable p] (h : (!decide p) = false) : p := by simpa using h
theorem wB_i64 (b : UInt8) : IntKind.i64.wrap (b.toNat : Int) = (b.toNat : Int) := w64 (by have := b.toNat_lt; omega)
/-- e knows no less than e'. -/
def Le (e e' : Env) : Prop := ∀ t v, look t e' = some v → look t e = some v
theorem Le.fr {e e' : Env} (h : Le e e') {n : Nat} {a : Act} (F : Fr n a e) : Fr n a e' := ⟨F.size, F.defs, fun t v hv => F.get t v (h t v hv)⟩
theorem Le.cons {e e' : Env} (h : Le e e') (d : Nat) (v : Value) : Le ((d, v) :: e) ((d, v) :: e') := fun t u hu => by
  rw [look_cons] at hu ⊢
  by_cases hk : d = t
  · rw [if_pos hk] at hu ⊢; exact hu
  · rw [if_neg hk] at hu ⊢; exact h t u hu
theorem Le.known {e : Env} {d : Nat} {v : Value} (hl : look d e = some v) : Le e ((d, v) :: e) := fun t u hu => by
  rw [look_cons] at hu
  by_cases hk : d = t
  · rw [if_pos hk] at hu; subst hk; rw [hl]; exact hu
  · rw [if_neg hk] at hu; exact hu

section
variable {P : Program} {ops : Array Oper} {Q : Exit → Act → World → Prop} {S : World → Prop} {n : Nat} {e : Env} {w : World} {rest : List Oper} {o : Oper} {d : Nat}

theorem wl_g {v : Value} (hg : ∀ a, Fr n a e → Region.wanted o (yielded ops a.tmps) = true) (hd : o.dst = some d) (hlt : Nat.blt d n = true) (hp : Pu P (· = w) n o e v) (k : WL P ops Q n rest ((d, v) :: e) w) : WL P ops Q n (o :: rest) e w := by
  intro a F
  unfold wpList
  rw [if_pos (hg a F)]
  refine .inl ?_
  simp only [Oper.wp, hp a F w rfl, Oper.upon, hd]
  exact k _ (F.put hlt v)
theorem wl_s (hg : ∀ a, Fr n a e → Region.wanted o (yielded ops a.tmps) = false) (hd : o.dst = some d) (hlt : Nat.blt d n = true) (k : WL P ops Q n rest ((d, undef) :: e) w) : WL P ops Q n (o :: rest) e w := by
  intro a F
  unfold wpList
  rw [if_neg (by rw [hg a F]; decide), hd]
  exact k _ (F.put hlt undef)
theorem wle_g (hg : ∀ a, Fr n a e → Region.wanted o (yielded ops a.tmps) = true) (h : OpE P n o e w Q (fun e' w' => WL P ops Q n rest e' w')) : WL P ops Q n (o :: rest) e w := by
  intro a F
  unfold wpList
  rw [if_pos (hg a F)]
  rcases h a F with h | h
  · exact .inl (Oper.wp_mono (fun a' w' ⟨e', F', hk⟩ => hk a' F') h)
  · exact .inr h
theorem wl_know {l : List Oper} {b b' : Bool} (hl : look d e = some (.bool b)) (hb : b = b') (k : WL P ops Q n l ((d, .bool b') :: e) w) : WL P ops Q n l e w := fun a F => k a ((Le.known (hb ▸ hl)).fr F)
theorem wl_split {l : List Oper} {b : Bool} (hl : look d e = some (.bool b)) (ht : b = true → WL P ops Q n l ((d, .bool true) :: e) w) (hf : b = false → WL P ops Q n l ((d, .bool false) :: e) w) : WL P ops Q n l e w := by
  cases b with
  | true => exact wl_know hl rfl (ht rfl)
  | false => exact wl_know hl rfl (hf rfl)
theorem OpE.le {e' : Env} {K : Env → World → Prop} (h : Le e e') (k : OpE P n o e' w Q K) : OpE P n o e w Q K := fun a F => k a (h.fr F)
theorem WS.le {l : OT} : ∀ {S : World → Prop} {e' : Env} {w : World}, WS P ops Q S n l e' w → ∀ {e : Env}, Le e e' → WS P ops Q S n l e w := by
  intro S e' w h
  induction h with
  | nil h => intro e hl; exact .nil fun a F => h a (hl.fr F)
  | pure ho hg hd hlt hp k ih => intro e hl; exact .pure ho (fun a F => hg a (hl.fr F)) hd hlt (fun a F => hp a (hl.fr F)) (ih (hl.cons _ _))
  | held ho hg hd hlt hp k ih => intro e hl; exact .held ho (fun a F => hg a (hl.fr F)) hd hlt (fun a F => hp a (hl.fr F)) (ih (hl.cons _ _))
  | skip ho hg hd hlt k ih => intro e hl; exact .skip ho (fun a F => hg a (hl.fr F)) hd hlt (ih (hl.cons _ _))
  | skip0 ho hg hd k ih => intro e hl; exact .skip0 ho (fun a F => hg a (hl.fr F)) hd (ih hl)
  | eff K ho hg h hk k ih => intro e hl; exact .eff K ho (fun a F => hg a (hl.fr F)) (h.le hl) hk k
  | last K ho hg h k ih => intro e hl; exact .last K ho (fun a F => hg a (hl.fr F)) (h.le hl) k
  | narrow hw hs k ih => intro e hl; exact .narrow hw hs (ih hl)
  | alt h k ih1 ih2 => intro e hl; exact .alt (ih1 hl) (ih2 hl)
theorem ws_know {l : OT} {b b' : Bool} (hl : look d e = some (.bool b)) (hb : b = b') (k : WS P ops Q S n l ((d, .bool b') :: e) w) : WS P ops Q S n l e w := k.le (Le.known (hb ▸ hl))
theorem ws_split {l : OT} {b : Bool} (hl : look d e = some (.bool b)) (ht : b = true → WS P ops Q S n l ((d, .bool true) :: e) w) (hf : b = false → WS P ops Q S n l ((d, .bool false) :: e) w) : WS P ops Q S n l e w := by
  cases b with
  | true => exact ws_know hl rfl (ht rfl)
  | false => exact ws_know hl rfl (hf rfl)
end

/-! ### Slices whose elements are of one cell each, f of an element -/
structure Sl {α : Type} (w : World) (F : Nat → Prop) (f : α → Value) (A : Option Addr) (l c : Nat) (xs : List α) : Prop where
  rd : Rd w F A (xs.map f)
  len : xs.length = l
  cap : l ≤ c
section
variable {α : Type} {w w' : World} {T F G : Nat → Prop} {f : α → Value} {A : Option Addr} {l c : Nat} {xs : List α}
theorem Sl.ch (h : Sl w F f A l c xs) (k : Ch T w w') (hn : ∀ i, F i → ¬ T i) : Sl w' F f A l c xs := ⟨h.rd.ch k hn, h.len, h.cap⟩
theorem Sl.no (h : Sl w F f A l c xs) (k : Ch No w w') : Sl w' F f A l c xs := h.ch k (fun _ _ h => h)
theorem Sl.mono (h : Sl w F f A l c xs) (hF : ∀ k, k < w.heap.size → F k → G k) : Sl w G f A l c xs := ⟨h.rd.mono hF, h.len, h.cap⟩
theorem Sl.chT (h : Sl w F f A l c xs) (k : Ch T w w') (hn : ∀ i, i < w.heap.size → F i → ¬ T i) : Sl w' (fun i => F i ∧ i < w.heap.size) f A l c xs := (h.mono (G := fun i => F i ∧ i < w.heap.size) (fun i hi hF => ⟨hF, hi⟩)).ch k (fun i hF => hn i hF.2 hF.1)
theorem Sl.old (h : Sl w F f A l c xs) : Sl w (fun k => k < w.heap.size) f A l c xs := h.mono fun _ h _ => h
theorem Sl.nil : Sl w F f (none : Option Addr) 0 0 [] := ⟨.nil, rfl, Nat.le_refl _⟩
theorem Sl.opn {d : α} (h : Sl w F f A l c xs) (h0 : 0 < l) : ∃ b o, A = some ⟨b, o, none⟩ ∧ F b ∧ ∀ j, j < l → w.cell? ⟨b, o + j, none⟩ = some (f (xs.getD j d)) := by
  rcases h.rd with h1 | ⟨b, o, hA, hF, hc⟩
  · have : xs.length = 0 := by have := congrArg List.length h1; simpa using this
    have := h.len; omega
  · refine ⟨b, o, hA, hF, fun j hj => hc j _ ?_⟩
    have : j < xs.length := by have := h.len; omega
    simp [List.getElem?_eq_getElem this, List.getD]
theorem Sl.cut (h : Sl w F f A l c xs) {lo hi q : Nat} (h1 : lo ≤ hi) (h2 : hi ≤ l) (hq : hi - lo = q := by rfl) : Sl w F f (cutA A c lo 1) q (c - lo) ((xs.drop lo).take q) := by
  subst hq
  have hl := h.len; have hc := h.cap
  refine ⟨?_, by rw [List.length_take, List.length_drop]; omega, by omega⟩
  have := (h.rd.cut (c := c) (l := lo) (sz := 1) (by rw [List.length_map]; omega)).take (hi - lo)
  rwa [Nat.mul_one, ← List.map_drop, ← List.map_take] at this
theorem Sl.cutTo (h : Sl w F f A l c xs) {lo : Nat} (h1 : lo ≤ l) : Sl w F f (cutA A c lo 1) (l - lo) (c - lo) (xs.drop lo) := by
  have := h.cut (lo := lo) (hi := l) h1 (Nat.le_refl _)
  rwa [List.take_of_length_le (by rw [List.length_drop, h.len]; exact Nat.le_refl _)] at this
theorem Sl.size (h : Sl w F f A l c xs) (h0 : 0 < l) {b o : Nat} (hA : A = some ⟨b, o, none⟩) : b < w.heap.size := by
  rcases h.rd with h1 | ⟨b', o', hA', hF, hc⟩
  · have : xs.length = 0 := by have := congrArg List.length h1; simpa using this
    have := h.len; omega
  · rw [hA] at hA'; cases hA'
    rcases xs with _ | ⟨x, r⟩
    · have := h.len; simp at this; omega
    · exact World.block_lt_of_cell? w _ (hc 0 _ rfl)
end
theorem oneL {α : Type} {f : α → Value} (hf : ∀ x, (f x).oneCell' = true) (xs : List α) : ∀ u ∈ xs.map f, u.oneCell' = true := fun u hu => by
  obtain ⟨x, _, rfl⟩ := List.mem_map.1 hu; exact hf x
theorem one_u8 (b : UInt8) : (u8v b).oneCell' = true := rfl
theorem one_u32 (b : BitVec 32) : (u32v b).oneCell' = true := rfl
section
variable {w w' : World} {F G T : Nat → Prop} {E : TypeId} {sz n : Nat} {v : Value} {xs : List Value} {A : Option Addr} {c : Nat}
theorem Row.shape (h : Row w F E sz v n xs) : ∃ A c, v = .slice A n c := by obtain ⟨A, c, rfl, _⟩ := h.form; exact ⟨A, c, rfl⟩
theorem Row.rd (h : Row w F E sz (.slice A n c) n xs) : Rd w F A xs := by
  obtain ⟨A', c', hv, _, _, hr⟩ := h.form
  cases hv; exact hr
theorem Row.cap_ (h : Row w F E sz (.slice A n c) n xs) : n ≤ c := by
  obtain ⟨A', c', hv, hc, _⟩ := h.form
  cases hv; exact hc
theorem Row.sl {α : Type} {f : α → Value} {ys : List α} (h : Row w F E 1 (.slice A n c) n (ys.map f)) : Sl w F f A n c ys := ⟨h.rd, by have := h.len; simpa using this, h.cap_⟩
theorem Row.after (h : Row w F E sz v n xs) (k : Ch No w w') : Row w' (fun i => F i ∧ (i < w.heap.size ∨ w'.heap.size ≤ i)) E sz v n xs :=
  (h.mono (G := fun i => F i ∧ (i < w.heap.size ∨ w'.heap.size ≤ i)) (fun i hi hF => ⟨hF, .inl hi⟩)).no k
theorem Row.afterT (h : Row w F E sz v n xs) (k : Ch T w w') (hn : ∀ i, i < w.heap.size → F i → ¬ T i) : Row w' (fun i => F i ∧ (i < w.heap.size ∨ w'.heap.size ≤ i)) E sz v n xs :=
  (h.mono (G := fun i => F i ∧ (i < w.heap.size ∨ w'.heap.size ≤ i)) (fun i hi hF => ⟨hF, .inl hi⟩)).ch k (fun i hi hF => hn i hi hF.1)
theorem Row.of_lit {g : Nat} {cs : Array Value} {l : Nat} (h : Blk w g E cs) (hF : F g) (hs : cs.size = l * sz) (hm : l ≤ maxLen) : Row w F E sz (.slice (some ⟨g, 0, none⟩) l l) l cs.toList := by
  have := Row.of_blk (n := l) h hF (Nat.le_refl l) hm hs
  rwa [List.take_of_length_le (by rw [Array.length_toList, hs]; exact Nat.le_refl _)] at this
theorem Rd.of_lit {g : Nat} {cs : Array Value} (h : Blk w g E cs) : Rd w (fun k => k = g) (some ⟨g, 0, none⟩) cs.toList := by
  have := Rd.of_blk (F := fun k => k = g) h rfl 0 cs.toList.length
  rwa [List.drop_zero, List.take_length] at this
end

theorem Sl.lit {α : Type} {f : α → Value} {w : World} {E : TypeId} {g : Nat} {cs : Array Value} {xs : List α} {l : Nat} (h : Blk w g E cs) (hx : cs.toList = xs.map f) (hl : xs.length = l) : Sl w (fun k => k = g) f (some ⟨g, 0, none⟩) l l xs :=
  ⟨hx ▸ Rd.of_lit h, hl, Nat.le_refl _⟩
theorem Sl.lit1 {α : Type} {f : α → Value} {w : World} {E : TypeId} {g : Nat} {x : α} (h : Blk w g E #[f x]) : Sl w (fun k => k = g) f (some ⟨g, 0, none⟩) 1 1 [x] := Sl.lit h rfl rfl
theorem Sl.lit2 {α : Type} {f : α → Value} {w : World} {E : TypeId} {g : Nat} {x y : α} (h : Blk w g E #[f x, f y]) : Sl w (fun k => k = g) f (some ⟨g, 0, none⟩) 2 2 [x, y] := Sl.lit h rfl rfl
theorem Sl.lit3 {α : Type} {f : α → Value} {w : World} {E : TypeId} {g : Nat} {x y z : α} (h : Blk w g E #[f x, f y, f z]) : Sl w (fun k => k = g) f (some ⟨g, 0, none⟩) 3 3 [x, y, z] := Sl.lit h rfl rfl
theorem Row.lit {α : Type} {f : α → Value} {w : World} {F : Nat → Prop} {E : TypeId} {g : Nat} {cs : Array Value} {xs : List α} {l : Nat} (h : Blk w g E cs) (hF : F g) (hx : cs.toList = xs.map f) (hl : xs.length = l) (hm : l ≤ maxLen) : Row w F E 1 (.slice (some ⟨g, 0, none⟩) l l) l (xs.map f) := by
  have := Row.of_lit (F := F) (sz := 1) (l := l) h hF (by rw [← Array.length_toList, hx, List.length_map, hl, Nat.mul_one]) hm
  rwa [hx] at this

/-! ### Local arrays of one kind of element: cells (L.map f) -/
section
variable {α : Type} {f : α → Value} {L : List α} {w : World} {g : Nat} {t : TypeId}
theorem cellL (h : Blk w g t (L.map f).toArray) {d : α} {i : Nat} (hi : i < L.length) : w.cell? ⟨g, i, none⟩ = some (f (L.getD i d)) :=
  h.cell (by simp [List.getElem?_eq_getElem hi, List.getD])
theorem szL {P : Program} {t : TypeId} {m : Nat} {l : List Value} (h : (P.info? t).map (·.size) = some m) (hl : l.length = m) : (P.info? t).map (·.size) = some l.length := by rw [h, hl]
theorem Sl.arr {N lo : Nat} (h : Blk w g t (L.map f).toArray) (hN : L.length = N) (hlo : lo ≤ N) : Sl w (fun k => k = g) f (some (if N = lo then ⟨g, 0, none⟩ else ⟨g, 0 + lo * 1, none⟩)) (N - lo) (N - lo) (L.drop lo) := by
  refine ⟨?_, by rw [List.length_drop, hN], Nat.le_refl _⟩
  by_cases hl : N = lo
  · rw [List.drop_of_length_le (by omega)]; exact .nil
  · rw [if_neg hl, Nat.zero_add, Nat.mul_one]
    have := Rd.of_blk (F := fun k => k = g) h rfl lo N
    rwa [List.take_of_length_le (by rw [List.length_drop]; simp; omega), show (L.map f).toArray.toList = L.map f from rfl, ← List.map_drop] at this
theorem rngL {cs : List Value} (h : Blk w g t cs.toArray) : w.rangeAt g 0 cs := rng_blk h (by simp)
theorem setL {i : Nat} {x : α} : ((L.map f).toArray.setIfInBounds i (f x)) = ((L.set i x).map f).toArray := by
  apply Array.toList_inj.1
  simp [List.map_set]
end

section
variable {P : Program} {Q : Exit → Act → World → Prop} {S : World → Prop} {n : Nat} {e : Env} {w : World} {rt : TypeId} {pos : String} {af : Array Edge} {gd : Option (Nat × Bool)} {d : Nat} {dst : Option Tmp} {K : Env → World → Prop}

theorem e_stL {α : Type} {f : α → Value} {L : List α} {x : α} {t : TypeId} {a b : Operand} {g o : Nat} {E : TypeId} (hf : ∀ x, (f x).oneCell' = true) (hi : (P.info? t).map (·.size) = some 1) (hx : ev e a = some (.pointer (some ⟨g, o, none⟩))) (hy : ev e b = some (f x)) (hb : Blk w g E (L.map f).toArray) (ho : o < L.length)
    (k : ∀ w', Blk w' g E ((L.set o x).map f).toArray → Ch (fun k => k = g) w w' → w'.heap.size = w.heap.size → K e w') : OpE P n ⟨none, .store t a b, rt, pos, af, gd⟩ e w Q K :=
  e_st hi (hf x) hx hy hb (by simpa using ho) (fun w' h => k w' (setL ▸ h))
/-- A variable of one cell. -/
theorem e_st1 {t : TypeId} {a b : Operand} {g : Nat} {E : TypeId} {u v : Value} (hi : (P.info? t).map (·.size) = some 1) (h1 : v.oneCell' = true) (hx : ev e a = some (.pointer (some ⟨g, 0, none⟩))) (hy : ev e b = some v) (hb : Blk w g E #[u])
    (k : ∀ w', Blk w' g E #[v] → Ch (fun k => k = g) w w' → w'.heap.size = w.heap.size → K e w') : OpE P n ⟨none, .store t a b, rt, pos, af, gd⟩ e w Q K :=
  e_st hi h1 hx hy hb (by simp) (fun w' h => k w' (by simpa using h))
/-- A variable of many cells is stored whole. -/
theorem e_stW {t : TypeId} {a b : Operand} {g : Nat} {E : TypeId} {cs : Array Value} {vs : List Value} (hi : (P.info? t).map (·.size) = some vs.length) (h1 : ∀ v ∈ vs, v.oneCell' = true) (hx : ev e a = some (.pointer (some ⟨g, 0, none⟩))) (hy : ev e b = some (.agg vs.toArray)) (hb : Blk w g E cs) (hs : cs.size = vs.length)
    (k : ∀ w', Blk w' g E vs.toArray → Ch (fun k => k = g) w w' → w'.heap.size = w.heap.size → K e w') : OpE P n ⟨none, .store t a b, rt, pos, af, gd⟩ e w Q K :=
  e_stA hi h1 hx hy hb (by omega) (fun w' cs' h hl => k w' (by
    have : cs' = vs.toArray := by
      apply Array.toList_inj.1
      rw [hl]
      simp [List.drop_eq_nil_of_le (show cs.toList.length ≤ vs.length by simp [hs])]
    exact this ▸ h))

theorem p_ixS1 {t E : TypeId} {x i : Operand} {A : Option Addr} {b o l c j : Nat} {k : IntKind} {I : Int} (ht : P.underlying t = some (.slice E)) (hsz : (P.info? E).map (·.size) = some 1) (hx : ev e x = some (.slice A l c)) (hA : A = some ⟨b, o, none⟩)
    (hi : ev e i = some (.int k I)) (h0 : 0 ≤ I) (h1 : I < l) (hj : I.toNat = j) : Pu P S n ⟨dst, .indexAddr t x i, rt, pos, af, gd⟩ e (.pointer (some ⟨b, o + j, none⟩)) := p_ixS ht hsz hx hA hi h0 h1 (by rw [Nat.mul_one]; exact hj)
theorem p_ixA1 {t E : TypeId} {x i : Operand} {b l j : Nat} {k : IntKind} {I : Int} (ht : P.underlying t = some (.array l E)) (hsz : (P.info? E).map (·.size) = some 1) (hx : ev e x = some (.pointer (some ⟨b, 0, none⟩)))
    (hi : ev e i = some (.int k I)) (h0 : 0 ≤ I) (h1 : I < l) (hj : I.toNat = j) : Pu P S n ⟨dst, .indexAddr t x i, rt, pos, af, gd⟩ e (.pointer (some ⟨b, j, none⟩)) := by
  have := p_ixA (S := S) (n := n) (dst := dst) (rt := rt) (pos := pos) (af := af) (gd := gd) ht hsz hx hi h0 h1 (j := j) (by rw [Nat.mul_one]; exact hj)
  rwa [Nat.zero_add] at this
theorem p_ixAo {t E : TypeId} {x i : Operand} {b o l j : Nat} {k : IntKind} {I : Int} (ht : P.underlying t = some (.array l E)) (hsz : (P.info? E).map (·.size) = some 1) (hx : ev e x = some (.pointer (some ⟨b, o, none⟩)))
    (hi : ev e i = some (.int k I)) (h0 : 0 ≤ I) (h1 : I < l) (hj : I.toNat = j) : Pu P S n ⟨dst, .indexAddr t x i, rt, pos, af, gd⟩ e (.pointer (some ⟨b, o + j, none⟩)) :=
  p_ixA ht hsz hx hi h0 h1 (j := j) (by rw [Nat.mul_one]; exact hj)
theorem p_mkf {fn : Fn} {xs : Array Operand} {vs : List Value} (hvs : evs e xs.toList = some vs) : Pu P S n ⟨dst, .makeFunc fn #[] xs, rt, pos, af, gd⟩ e (.func fn #[] vs.toArray) := fun a F w _ => by
  have h : xs.map a.eval = vs.toArray := by
    apply Array.toList_inj.1
    rw [Array.toList_map, F.evs hvs]
  simp [execOp, Instr.makeFunc, h]
/-- A function value is called. -/
theorem e_callV {f : FuncId} (hf : Ent P f) {x : Operand} {xs : Array Operand} {ts : Array TypeId} {vs cs : List Value} {R : Ending → World → Prop} (hlt : Nat.blt d n = true) (hx : ev e x = some (.func (.func f) #[] cs.toArray)) (hvs : evs e xs.toList = some vs) (hc : Calls P f (vs ++ cs).toArray w R)
    (k : ∀ ed w', R ed w' → ∃ v, ed = .returned v ∧ K ((d, v) :: e) w') : OpE P n ⟨some d, .call { callee := .value x, args := xs, argTypes := ts }, rt, pos, af, gd⟩ e w Q K := fun a F => .inl (by
  have hargs : xs.map a.eval = vs.toArray := by
    apply Array.toList_inj.1
    rw [Array.toList_map, F.evs hvs]
  have hr : (execOp a.eval ⟨some d, .call { callee := .value x, args := xs, argTypes := ts }, rt, pos, af, gd⟩).run P w = .ok (.enter f (vs ++ cs).toArray) w := by
    simp only [execOp, resolve, hargs, F.ev hx, Deferred.ofValue]
    simp [invoke, run_enter hf]
  simp only [Oper.wp, hr, Oper.upon]
  refine hc.mono fun ed w' hR => ?_
  obtain ⟨v, rfl, hK⟩ := k ed w' hR
  exact ⟨_, F.put hlt v, hK⟩)
theorem p_convN8 {s t : TypeId} {x : Operand} {k : IntKind} {X : Nat} {D : TypeDesc} (hs : P.underlying s = some D) (ht : P.underlying t = some (.int .u8)) (hx : ev e x = some (.int k (X : Int))) : Pu P S n ⟨dst, .convert s t x, rt, pos, af, gd⟩ e (u8v (UInt8.ofNat X)) :=
  p_conv hs ht hx (by rw [wu8n]; simp)
theorem p_convB32 {s t : TypeId} {x : Operand} {b : UInt8} {D : TypeDesc} (hs : P.underlying s = some D) (ht : P.underlying t = some (.int .u32)) (hx : ev e x = some (u8v b)) : Pu P S n ⟨dst, .convert s t x, rt, pos, af, gd⟩ e (u32v (BitVec.ofNat 32 b.toNat)) :=
  p_conv hs ht hx (by rw [wu32n, BitVec.toNat_ofNat])
theorem p_conv32B {s t : TypeId} {x : Operand} {X : BitVec 32} {D : TypeDesc} (hs : P.underlying s = some D) (ht : P.underlying t = some (.int .u8)) (hx : ev e x = some (u32v X)) : Pu P S n ⟨dst, .convert s t x, rt, pos, af, gd⟩ e (u8v (UInt8.ofNat X.toNat)) :=
  p_conv hs ht hx (by rw [wu8n]; simp)

/-- append onto a row of elements of one cell each. -/
theorem e_appS {α : Type} {f : α → Value} {t E : TypeId} {a b : Operand} {by_ : Nat} {v : Value} {l m c : Nat} {ys xs : List α} {F Fx : Nat → Prop} {A : Option Addr} (hlt : Nat.blt d n = true) (ht : ElT P t E 1 by_) (hf : ∀ x, (f x).oneCell' = true) (hs : ev e a = some v) (hx : ev e b = some (.slice A m c)) (R : Row w F E 1 v l (ys.map f)) (X : Sl w Fx f A m c xs)
    (hb : (l + m) * by_ ≤ 140737488355328) (hF : ∀ k, w.heap.size ≤ k → F k)
    (k : ∀ w' A' c', Row w' F E 1 (.slice A' (l + m) c') (l + m) ((ys ++ xs).map f) → Ch F w w' → K ((d, .slice A' (l + m) c') :: e) w') (h63 : l + m ≤ maxLen := by unfold maxLen; omega) : OpE P n ⟨some d, .call { callee := .builtin .append, args := #[a, b], argTypes := #[t, t] }, rt, pos, af, gd⟩ e w Q K :=
  e_app hlt ht hs hx R X.rd (by rw [List.length_map, X.len, Nat.mul_one]) (oneL hf xs) hb h63 hF (fun w' v' h c => by
    obtain ⟨A', c', rfl⟩ := h.shape
    exact k w' A' c' (by rw [List.map_append]; exact h) c)
theorem ElT.of {t E : TypeId} {z : Value} {sz by_ : Nat} (ht : P.underlying t = some (.slice E)) (hi : (P.info? E).map (fun i => (i.zero, i.size, i.bytes)) = some (some z, sz, by_)) (hz : z.cells.size = sz) (h0 : 0 < sz) : ElT P t E sz by_ := by
  obtain ⟨i, h1, h2, h3, h4⟩ := info_parts hi
  exact ⟨ht, ⟨i, z, h1, h2, h3, h4, hz⟩, h0⟩
/-- Numbers without a sign, as natural numbers. -/
theorem p_shrN {t t' : TypeId} {x y : Operand} {k k' : IntKind} {X Y : Nat} (hx : ev e x = some (.int k (X : Int))) (hy : ev e y = some (.int k' (Y : Int))) (hY : Nat.ble Y k.bits = true) : Pu P S n ⟨dst, .binOp .shr t x y t', rt, pos, af, gd⟩ e (.int k ((X / 2 ^ Y : Nat) : Int)) :=
  p_shr hx hy (by omega) (by
    rw [Int.toNat_natCast, Nat.min_eq_left (Nat.le_of_ble_eq_true hY), show ((2 : Int) ^ Y) = ((2 ^ Y : Nat) : Int) by push_cast; rfl, Int.fdiv_eq_ediv_of_nonneg _ (Int.natCast_nonneg _), ← Int.natCast_ediv])
theorem Ch.setRow (w : World) (g : Nat) (cs : Array Value) : Ch (fun k => k = g) w (w.setRow g cs) := ⟨rfl, rfl, rfl, by simp, fun k _ hn => setRow_other w g k cs hn⟩
/-- copy(dst, src), dst a part of a local array. -/
theorem p_slA2 {t E : TypeId} {x : Operand} {lo : Operand} {b o N l : Nat} (ht : P.underlying t = some (.array N E)) (hsz : (P.info? E).map (·.size) = some 1) (hx : ev e x = some (.pointer (some ⟨b, o, none⟩)))
    (hl : ∃ k, ev e lo = some (.int k (l : Int))) (h1 : l < N) : Pu P S n ⟨dst, .slice t x (some lo) none none, rt, pos, af, gd⟩ e (.slice (some ⟨b, o + l, none⟩) (N - l) (N - l)) := by
  have := p_slA (S := S) (n := n) (e := e) (dst := dst) (rt := rt) (pos := pos) (af := af) (gd := gd) (hi := none) (h := N) ht hsz hx (lo := some lo) hl rfl (by omega) (Nat.le_refl _)
  rwa [if_neg (by omega), Nat.mul_one] at this
/-- An element of an array's value. -/
theorem p_ixG {α : Type} {f : α → Value} {L : List α} {t E : TypeId} {D : TypeDesc} {x i : Operand} {N j : Nat} {k : IntKind} {I : Int} {d0 : α} (ht : P.underlying t = some (.array N E)) (hE : P.underlying E = some D) (hfl : flatT D = true) (hsz : (P.info? E).map (·.size) = some 1) (hx : ev e x = some (.agg (L.map f).toArray)) (hi : ev e i = some (.int k I)) (h0 : 0 ≤ I) (h1 : I < N) (hL : L.length = N) (hj : I.toNat = j) : Pu P S n ⟨dst, .index t x i, rt, pos, af, gd⟩ e (f (L.getD j d0)) := fun a F w _ => by
  obtain ⟨inf, hinf, hs1⟩ := Option.map_eq_some_iff.1 hsz
  subst hj
  have hlt : I.toNat < L.length := by omega
  have hag : (isAgg E).run P w = .ok false w := by
    cases D <;> simp [flatT] at hfl <;> simp [isAgg, run_underlying hE]
  have hcell : (L.map f).toArray[I.toNat]? = some (f (L.getD I.toNat d0)) := by simp [List.getElem?_eq_getElem hlt, List.getD]
  have hrun : (Instr.index t (.agg (L.map f).toArray) (.int k I)).run P w = .ok (f (L.getD I.toNat d0)) w := by
    simp only [Instr.index, asIntOf, Sem.run_bind, Sem.run_pure, Result.andThen_ok, run_underlying ht, h0, h1, and_self, if_true, sizeOf, typeInfo, program, Sem.run, hinf, hs1, Nat.mul_one, part, hag, Bool.false_eq_true, if_false, hcell]
  simp only [execOp, F.ev hx, F.ev hi, Sem.run_bind, hrun, Result.andThen_ok, Sem.run_pure]

/-! ### Results that lie in memory -/
theorem resC {fn : Func} {p ty g : Nat} {D : TypeDesc} {cs : List Value} (hres : fn.results = #[.cell p ty]) (hl : look p e = some (.pointer (some ⟨g, 0, none⟩))) (hd : P.underlying ty = some D) (hf : flatT D = false) (hi : (P.info? ty).map (·.size) = some cs.length) (hr : w.rangeAt g 0 cs) : ∀ a, Fr n a e → (results fn a.tmps).run P w = .ok (.agg cs.toArray) w := fun a F => by
  have h := run_loadVar_mid (P := P) w g 0 ty cs D hr hd (by cases D <;> simp [flatT] at hf <;> simp) hi
  have hg : a.tmps[p]?.getD undef = .pointer (some ⟨g, 0, none⟩) := by have := F.get p _ hl; rwa [Array.getD_eq_getD_getElem?] at this
  simp [results, hres, hg, asAddr, h]
end
end Go.Gx
