/-
  Own text: guards, splits, slices of one kind of element, local arrays, small variables in memory, results.
-/
import Derived.Test.YtkfkdakghjlenaaDoorGxEff
import Derived.Test.YtkfkdakghjlenaaDoorGxDraw
set_option linter.unusedSimpArgs false
set_option linter.unusedVariables false
namespace Go.Gx
open Go.RowKit

theorem of_not_dec_true {p : Prop} [Decidable p] (h : (!decide p) = true) : ¬ p := by simpa using h
theorem of_not_dec_false {p : Prop} [Decidable p] (h : (!decide p) = false) : p := by simpa using h
theorem wB_i64 (b : UInt8) : IntKind.i64.wrap (b.toNat : Int) = (b.toNat : Int) := w64 (by have := b.toNat_lt; omega)
theorem wB_u64 (b : UInt8) : IntKind.u64.wrap (b.toNat : Int) = (b.toNat : Int) := wu64 (by have := b.toNat_lt; omega)
theorem wB_u8 (b : UInt8) : IntKind.u8.wrap (b.toNat : Int) = (b.toNat : Int) := wu8 (by have := b.toNat_lt; omega)

/-- e knows no less than e'. -/
def Le (e e' : Env) : Prop := ∀ t v, look t e' = some v → look t e = some v
theorem Le.fr {e e' : Env} (h : Le e e') {n : Nat} {a : Act} (F : Fr n a e) : Fr n a e' := ⟨F.size, F.defs, fun t v hv => F.get t v (h t v hv)⟩
theorem Le.cons {e e' : Env} (h : Le e e') (d : Nat) (v : Value) : Le ((d, v) :: e) ((d, v) :: e') := fun t u hu => by
  rw [look_cons] at hu ⊢
  by_cases hk : d = t
  · rw [if_pos hk] at hu ⊢; exact hu
  · rw [if_neg hk] at hu ⊢; exact h t u hu
theorem Le.known {e : Env} {d : Nat} {v : Value} (hl : look d e = some v) : Le e ((d, v) :: e) := fun t u hu => by
  rw [look_cons] at hu
  by_cases hk : d = t
  · rw [if_pos hk] at hu; subst hk; rw [hl]; exact hu
  · rw [if_neg hk] at hu; exact hu

section
variable {P : Program} {ops : Array Oper} {Q : Exit → Act → World → Prop} {S : World → Prop} {n : Nat} {e : Env} {w : World} {rest : List Oper} {o : Oper} {d : Nat}

theorem wl_g {v : Value} (hg : ∀ a, Fr n a e → Region.wanted o (yielded ops a.tmps) = true) (hd : o.dst = some d) (hlt : Nat.blt d n = true) (hp : Pu P (· = w) n o e v) (k : WL P ops Q n rest ((d, v) :: e) w) : WL P ops Q n (o :: rest) e w := by
  intro a F
  unfold wpList
  rw [if_pos (hg a F)]
  refine .inl ?_
  simp only [Oper.wp, hp a F w rfl, Oper.upon, hd]
  exact k _ (F.put hlt v)
theorem wl_s (hg : ∀ a, Fr n a e → Region.wanted o (yielded ops a.tmps) = false) (hd : o.dst = some d) (hlt : Nat.blt d n = true) (k : WL P ops Q n rest ((d, undef) :: e) w) : WL P ops Q n (o :: rest) e w := by
  intro a F
  unfold wpList
  rw [if_neg (by rw [hg a F]; decide), hd]
  exact k _ (F.put hlt undef)
theorem wl_s0 (hg : ∀ a, Fr n a e → Region.wanted o (yielded ops a.tmps) = false) (hd : o.dst = none) (k : WL P ops Q n rest e w) : WL P ops Q n (o :: rest) e w := by
  intro a F
  unfold wpList
  rw [if_neg (by rw [hg a F]; decide), hd]
  exact k _ F
theorem wle_g (hg : ∀ a, Fr n a e → Region.wanted o (yielded ops a.tmps) = true) (h : OpE P n o e w Q (fun e' w' => WL P ops Q n rest e' w')) : WL P ops Q n (o :: rest) e w := by
  intro a F
  unfold wpList
  rw [if_pos (hg a F)]
  rcases h a F with h | h
  · exact .inl (Oper.wp_mono (fun a' w' ⟨e', F', hk⟩ => hk a' F') h)
  · exact .inr h
theorem wl_know {l : List Oper} {b b' : Bool} (hl : look d e = some (.bool b)) (hb : b = b') (k : WL P ops Q n l ((d, .bool b') :: e) w) : WL P ops Q n l e w := fun a F => k a ((Le.known (hb ▸ hl)).fr F)
theorem wl_re {l : List Oper} {v v' : Value} (hl : look d e = some v) (hv : v = v') (k : WL P ops Q n l ((d, v') :: e) w) : WL P ops Q n l e w := fun a F => k a ((Le.known (hv ▸ hl)).fr F)
theorem wl_split {l : List Oper} {b : Bool} (hl : look d e = some (.bool b)) (ht : b = true → WL P ops Q n l ((d, .bool true) :: e) w) (hf : b = false → WL P ops Q n l ((d, .bool false) :: e) w) : WL P ops Q n l e w := by
  cases b with
  | true => exact wl_know hl rfl (ht rfl)
  | false => exact wl_know hl rfl (hf rfl)
theorem OpE.le {e' : Env} {K : Env → World → Prop} (h : Le e e') (k : OpE P n o e' w Q K) : OpE P n o e w Q K := fun a F => k a (h.fr F)
theorem WS.le {l : OT} : ∀ {S : World → Prop} {e' : Env} {w : World}, WS P ops Q S n l e' w → ∀ {e : Env}, Le e e' → WS P ops Q S n l e w := by
  intro S e' w h
  induction h with
  | nil h => intro e hl; exact .nil fun a F => h a (hl.fr F)
  | pure ho hg hd hlt hp k ih => intro e hl; exact .pure ho (fun a F => hg a (hl.fr F)) hd hlt (fun a F => hp a (hl.fr F)) (ih (hl.cons _ _))
  | held ho hg hd hlt hp k ih => intro e hl; exact .held ho (fun a F => hg a (hl.fr F)) hd hlt (fun a F => hp a (hl.fr F)) (ih (hl.cons _ _))
  | skip ho hg hd hlt k ih => intro e hl; exact .skip ho (fun a F => hg a (hl.fr F)) hd hlt (ih (hl.cons _ _))
  | skip0 ho hg hd k ih => intro e hl; exact .skip0 ho (fun a F => hg a (hl.fr F)) hd (ih hl)
  | eff K ho hg h hk k ih => intro e hl; exact .eff K ho (fun a F => hg a (hl.fr F)) (h.le hl) hk k
  | last K ho hg h k ih => intro e hl; exact .last K ho (fun a F => hg a (hl.fr F)) (h.le hl) k
  | narrow hw hs k ih => intro e hl; exact .narrow hw hs (ih hl)
  | alt h k ih1 ih2 => intro e hl; exact .alt (ih1 hl) (ih2 hl)
theorem ws_know {l : OT} {b b' : Bool} (hl : look d e = some (.bool b)) (hb : b = b') (k : WS P ops Q S n l ((d, .bool b') :: e) w) : WS P ops Q S n l e w := k.le (Le.known (hb ▸ hl))
theorem ws_split {l : OT} {b : Bool} (hl : look d e = some (.bool b)) (ht : b = true → WS P ops Q S n l ((d, .bool true) :: e) w) (hf : b = false → WS P ops Q S n l ((d, .bool false) :: e) w) : WS P ops Q S n l e w := by
  cases b with
  | true => exact ws_know hl rfl (ht rfl)
  | false => exact ws_know hl rfl (hf rfl)
end

/-! ### Slices whose elements are of one cell each, f of an element -/
structure Sl {α : Type} (w : World) (F : Nat → Prop) (f : α → Value) (A : Option Addr) (l c : Nat) (xs : List α) : Prop where
  rd : Rd w F A (xs.map f)
  len : xs.length = l
  cap : l ≤ c
section
variable {α : Type} {w w' : World} {T F G : Nat → Prop} {f : α → Value} {A : Option Addr} {l c : Nat} {xs : List α}
theorem Sl.ch (h : Sl w F f A l c xs) (k : Ch T w w') (hn : ∀ i, F i → ¬ T i) : Sl w' F f A l c xs := ⟨h.rd.ch k hn, h.len, h.cap⟩
theorem Sl.no (h : Sl w F f A l c xs) (k : Ch No w w') : Sl w' F f A l c xs := h.ch k (fun _ _ h => h)
theorem Sl.mono (h : Sl w F f A l c xs) (hF : ∀ k, k < w.heap.size → F k → G k) : Sl w G f A l c xs := ⟨h.rd.mono hF, h.len, h.cap⟩
theorem Sl.chT (h : Sl w F f A l c xs) (k : Ch T w w') (hn : ∀ i, i < w.heap.size → F i → ¬ T i) : Sl w' (fun i => F i ∧ i < w.heap.size) f A l c xs := (h.mono (G := fun i => F i ∧ i < w.heap.size) (fun i hi hF => ⟨hF, hi⟩)).ch k (fun i hF => hn i hF.2 hF.1)
theorem Sl.old (h : Sl w F f A l c xs) : Sl w (fun k => k < w.heap.size) f A l c xs := h.mono fun _ h _ => h
theorem Sl.nil : Sl w F f (none : Option Addr) 0 0 [] := ⟨.nil, rfl, Nat.le_refl _⟩
theorem Sl.opn {d : α} (h : Sl w F f A l c xs) (h0 : 0 < l) : ∃ b o, A = some ⟨b, o, none⟩ ∧ F b ∧ ∀ j, j < l → w.cell? ⟨b, o + j, none⟩ = some (f (xs.getD j d)) := by
  rcases h.rd with h1 | ⟨b, o, hA, hF, hc⟩
  · have : xs.length = 0 := by have := congrArg List.length h1; simpa using this
    have := h.len; omega
  · refine ⟨b, o, hA, hF, fun j hj => hc j _ ?_⟩
    have : j < xs.length := by have := h.len; omega
    simp [List.getElem?_eq_getElem this, List.getD]
theorem Sl.none_len (h : Sl w F f none l c xs) : l = 0 ∧ xs = [] := by
  rcases h.rd with h1 | ⟨b, o, hA, _, _⟩
  · have h2 : xs = [] := by simpa using h1
    subst h2; exact ⟨h.len.symm, rfl⟩
  · cases hA
theorem Sl.cut (h : Sl w F f A l c xs) {lo hi q : Nat} (h1 : lo ≤ hi) (h2 : hi ≤ l) (hq : hi - lo = q := by rfl) : Sl w F f (cutA A c lo 1) q (c - lo) ((xs.drop lo).take q) := by
  subst hq
  have hl := h.len; have hc := h.cap
  refine ⟨?_, by rw [List.length_take, List.length_drop]; omega, by omega⟩
  have := (h.rd.cut (c := c) (l := lo) (sz := 1) (by rw [List.length_map]; omega)).take (hi - lo)
  rwa [Nat.mul_one, ← List.map_drop, ← List.map_take] at this
theorem Sl.cutTo (h : Sl w F f A l c xs) {lo : Nat} (h1 : lo ≤ l) : Sl w F f (cutA A c lo 1) (l - lo) (c - lo) (xs.drop lo) := by
  have := h.cut (lo := lo) (hi := l) h1 (Nat.le_refl _)
  rwa [List.take_of_length_le (by rw [List.length_drop, h.len]; exact Nat.le_refl _)] at this
theorem Sl.size (h : Sl w F f A l c xs) (h0 : 0 < l) {b o : Nat} (hA : A = some ⟨b, o, none⟩) : b < w.heap.size := by
  rcases h.rd with h1 | ⟨b', o', hA', hF, hc⟩
  · have : xs.length = 0 := by have := congrArg List.length h1; simpa using this
    have := h.len; omega
  · rw [hA] at hA'; cases hA'
    rcases xs with _ | ⟨x, r⟩
    · have := h.len; simp at this; omega
    · exact World.block_lt_of_cell? w _ (hc 0 _ rfl)
end
theorem oneL {α : Type} {f : α → Value} (hf : ∀ x, (f x).oneCell' = true) (xs : List α) : ∀ u ∈ xs.map f, u.oneCell' = true := fun u hu => by
  obtain ⟨x, _, rfl⟩ := List.mem_map.1 hu; exact hf x
theorem one_u8 (b : UInt8) : (u8v b).oneCell' = true := rfl
theorem one_u32 (b : BitVec 32) : (u32v b).oneCell' = true := rfl
theorem one_str (s : ByteArray) : (Value.string s).oneCell' = true := rfl
theorem one_i64 (x : Int) : (i64 x).oneCell' = true := rfl

section
variable {w w' : World} {F G T : Nat → Prop} {E : TypeId} {sz n : Nat} {v : Value} {xs : List Value} {A : Option Addr} {c : Nat}
theorem Row.shape (h : Row w F E sz v n xs) : ∃ A c, v = .slice A n c := by obtain ⟨A, c, rfl, _⟩ := h.form; exact ⟨A, c, rfl⟩
theorem Row.rd (h : Row w F E sz (.slice A n c) n xs) : Rd w F A xs := by
  obtain ⟨A', c', hv, _, _, hr⟩ := h.form
  cases hv; exact hr
theorem Row.cap_ (h : Row w F E sz (.slice A n c) n xs) : n ≤ c := by
  obtain ⟨A', c', hv, hc, _⟩ := h.form
  cases hv; exact hc
theorem Row.sl {α : Type} {f : α → Value} {ys : List α} (h : Row w F E 1 (.slice A n c) n (ys.map f)) : Sl w F f A n c ys := ⟨h.rd, by have := h.len; simpa using this, h.cap_⟩
theorem Row.after (h : Row w F E sz v n xs) (k : Ch No w w') : Row w' (fun i => F i ∧ (i < w.heap.size ∨ w'.heap.size ≤ i)) E sz v n xs :=
  (h.mono (G := fun i => F i ∧ (i < w.heap.size ∨ w'.heap.size ≤ i)) (fun i hi hF => ⟨hF, .inl hi⟩)).no k
theorem Row.afterT (h : Row w F E sz v n xs) (k : Ch T w w') (hn : ∀ i, i < w.heap.size → F i → ¬ T i) : Row w' (fun i => F i ∧ (i < w.heap.size ∨ w'.heap.size ≤ i)) E sz v n xs :=
  (h.mono (G := fun i => F i ∧ (i < w.heap.size ∨ w'.heap.size ≤ i)) (fun i hi hF => ⟨hF, .inl hi⟩)).ch k (fun i hi hF => hn i hi hF.1)
theorem Row.of_lit {g : Nat} {cs : Array Value} {l : Nat} (h : Blk w g E cs) (hF : F g) (hs : cs.size = l * sz) (hm : l ≤ maxLen) : Row w F E sz (.slice (some ⟨g, 0, none⟩) l l) l cs.toList := by
  have := Row.of_blk (n := l) h hF (Nat.le_refl l) hm hs
  rwa [List.take_of_length_le (by rw [Array.length_toList, hs]; exact Nat.le_refl _)] at this
theorem Rd.of_lit {g : Nat} {cs : Array Value} (h : Blk w g E cs) : Rd w (fun k => k = g) (some ⟨g, 0, none⟩) cs.toList := by
  have := Rd.of_blk (F := fun k => k = g) h rfl 0 cs.toList.length
  rwa [List.drop_zero, List.take_length] at this
end

theorem Sl.lit {α : Type} {f : α → Value} {w : World} {E : TypeId} {g : Nat} {cs : Array Value} {xs : List α} {l : Nat} (h : Blk w g E cs) (hx : cs.toList = xs.map f) (hl : xs.length = l) : Sl w (fun k => k = g) f (some ⟨g, 0, none⟩) l l xs :=
  ⟨hx ▸ Rd.of_lit h, hl, Nat.le_refl _⟩
theorem Sl.lit4 {α : Type} {f : α → Value} {w : World} {E : TypeId} {g : Nat} {x y z u : α} (h : Blk w g E #[f x, f y, f z, f u]) : Sl w (fun k => k = g) f (some ⟨g, 0, none⟩) 4 4 [x, y, z, u] := Sl.lit h rfl rfl
theorem Sl.lit1 {α : Type} {f : α → Value} {w : World} {E : TypeId} {g : Nat} {x : α} (h : Blk w g E #[f x]) : Sl w (fun k => k = g) f (some ⟨g, 0, none⟩) 1 1 [x] := Sl.lit h rfl rfl
theorem Sl.lit2 {α : Type} {f : α → Value} {w : World} {E : TypeId} {g : Nat} {x y : α} (h : Blk w g E #[f x, f y]) : Sl w (fun k => k = g) f (some ⟨g, 0, none⟩) 2 2 [x, y] := Sl.lit h rfl rfl
theorem Sl.lit3 {α : Type} {f : α → Value} {w : World} {E : TypeId} {g : Nat} {x y z : α} (h : Blk w g E #[f x, f y, f z]) : Sl w (fun k => k = g) f (some ⟨g, 0, none⟩) 3 3 [x, y, z] := Sl.lit h rfl rfl
theorem Row.lit {α : Type} {f : α → Value} {w : World} {F : Nat → Prop} {E : TypeId} {g : Nat} {cs : Array Value} {xs : List α} {l : Nat} (h : Blk w g E cs) (hF : F g) (hx : cs.toList = xs.map f) (hl : xs.length = l) (hm : l ≤ maxLen) : Row w F E 1 (.slice (some ⟨g, 0, none⟩) l l) l (xs.map f) := by
  have := Row.of_lit (F := F) (sz := 1) (l := l) h hF (by rw [← Array.length_toList, hx, List.length_map, hl, Nat.mul_one]) hm
  rwa [hx] at this

/-! ### Local arrays of one kind of element: cells (L.map f) -/
section
variable {α : Type} {f : α → Value} {L : List α} {w : World} {g : Nat} {t : TypeId}
theorem cellL (h : Blk w g t (L.map f).toArray) {d : α} {i : Nat} (hi : i < L.length) : w.cell? ⟨g, i, none⟩ = some (f (L.getD i d)) :=
  h.cell (by simp [List.getElem?_eq_getElem hi, List.getD])
theorem szL {P : Program} {t : TypeId} {m : Nat} {l : List Value} (h : (P.info? t).map (·.size) = some m) (hl : l.length = m) : (P.info? t).map (·.size) = some l.length := by rw [h, hl]
theorem Sl.arr {N lo : Nat} (h : Blk w g t (L.map f).toArray) (hN : L.length = N) (hlo : lo ≤ N) : Sl w (fun k => k = g) f (some (if N = lo then ⟨g, 0, none⟩ else ⟨g, 0 + lo * 1, none⟩)) (N - lo) (N - lo) (L.drop lo) := by
  refine ⟨?_, by rw [List.length_drop, hN], Nat.le_refl _⟩
  by_cases hl : N = lo
  · rw [List.drop_of_length_le (by omega)]; exact .nil
  · rw [if_neg hl, Nat.zero_add, Nat.mul_one]
    have := Rd.of_blk (F := fun k => k = g) h rfl lo N
    rwa [List.take_of_length_le (by rw [List.length_drop]; simp; omega), show (L.map f).toArray.toList = L.map f from rfl, ← List.map_drop] at this
theorem rngL {cs : List Value} (h : Blk w g t cs.toArray) : w.rangeAt g 0 cs := rng_blk h (by simp)
theorem setL {i : Nat} {x : α} : ((L.map f).toArray.setIfInBounds i (f x)) = ((L.set i x).map f).toArray := by
  apply Array.toList_inj.1
  simp [List.map_set]
end

section
variable {P : Program} {Q : Exit → Act → World → Prop} {S : World → Prop} {n : Nat} {e : Env} {w : World} {rt : TypeId} {pos : String} {af : Array Edge} {gd : Option (Nat × Bool)} {d : Nat} {dst : Option Tmp} {K : Env → World → Prop}

/-- A constant text as bytes: the row gets a mark behind its last cell. -/
theorem e_mark {t E E' : TypeId} {x : Operand} {g l c : Nat} {cs : Array Value} {xs : List UInt8} (hlt : Nat.blt d n = true) (ht : P.underlying t = some (.slice E)) (he : P.underlying E = some (.int .u8)) (hx : ev e x = some (.slice (some ⟨g, 0, none⟩) l c)) (hb : Blk w g E' cs) (hxs : cs.toList = xs.map u8v) (hl : xs.length = l) (hc : l ≤ c)
    (k : ∀ w', Sl w' (fun k => k = g) u8v (some ⟨g, 0, none⟩) l c xs → Ch (fun k => k = g) w w' → w'.heap.size = w.heap.size → K ((d, .slice (some ⟨g, 0, none⟩) l c) :: e) w') : OpE P n ⟨some d, .convert t t x, rt, pos, af, gd⟩ e w Q K := by
  have hsh : w.shape? g = some (E', cs.size) := by unfold World.shape?; unfold Blk at hb; rw [hb]
  have hg : (w.freeze ⟨g, cs.size, none⟩ 1).heap[g]? = some (.cells cs E' (cs.size, cs.size + 1)) := by
    unfold Blk at hb
    unfold World.freeze
    rw [if_neg (by decide)]
    simp [Array.getElem?_modify, hb]
  have hch : Ch (fun k => k = g) w (w.freeze ⟨g, cs.size, none⟩ 1) := by
    refine ⟨rfl, rfl, rfl, ?_, fun i hi hn => ?_⟩
    · unfold World.freeze; rw [if_neg (by decide)]; simp
    · unfold World.freeze; rw [if_neg (by decide)]; simp [Array.getElem?_modify, Ne.symm hn]
  have hsz : (w.freeze ⟨g, cs.size, none⟩ 1).heap.size = w.heap.size := by unfold World.freeze; rw [if_neg (by decide)]; simp
  refine e_of_run rfl hlt (w' := w.freeze ⟨g, cs.size, none⟩ 1) (fun a F => ?_) (k _ ⟨.inr ⟨g, 0, rfl, rfl, fun j u hj => ?_⟩, hl, hc⟩ hch hsz)
  · have h : (convert t t (.slice (some ⟨g, 0, none⟩) l c)).run P w = .ok (.slice (some ⟨g, 0, none⟩) l c) (w.freeze ⟨g, cs.size, none⟩ 1) := by
      simp [convert, run_underlying ht, run_underlying he, markStringish, hsh]
    simp [execOp, F.ev hx, h]
  · rw [Nat.zero_add, cell_of_row _ g j cs E' _ hg, ← Array.getElem?_toList, hxs]; exact hj
/-- A text as bytes. -/
theorem e_stb {s t E : TypeId} {x : Operand} {q : ByteArray} (hlt : Nat.blt d n = true) (hs : P.underlying s = some .string) (ht : P.underlying t = some (.slice E)) (he : P.underlying E = some (.int .u8)) (hx : ev e x = some (.string q))
    (k : ∀ w' g c, g = w.heap.size → Sl w' (fun k => k = g) u8v (some ⟨g, 0, none⟩) q.size c q.data.toList → Ch No w w' → w'.heap.size = g + 1 → K ((d, .slice (some ⟨g, 0, none⟩) q.size c) :: e) w') : OpE P n ⟨some d, .convert s t x, rt, pos, af, gd⟩ e w Q K := by
  have hch : Ch No w (Lib.bytesWorld w E q) := by
    refine ⟨?_, ?_, ?_, by rw [Lib.bytesWorld_size]; omega, fun i hi _ => Lib.bytesWorld_at_old w E q i hi⟩ <;> (unfold Lib.bytesWorld World.freeze; rw [if_neg (by decide)]; rfl)
  refine e_of_run rfl hlt (w' := Lib.bytesWorld w E q) (fun a F => ?_) (k _ w.heap.size (grownCap w q.size 0 E) rfl ⟨.inr ⟨w.heap.size, 0, rfl, rfl, fun j u hj => ?_⟩, Array.length_toList, ?_⟩ hch (Lib.bytesWorld_size w E q))
  · simp [execOp, F.ev hx, Lib.run_convert_string_bytes w s t E q hs ht he]
  · rw [List.getElem?_map] at hj
    obtain ⟨y, hy, rfl⟩ := Option.map_eq_some_iff.1 hj
    have hjl : j < q.data.toList.length := (List.getElem?_eq_some_iff.1 hy).1
    have := Lib.bytesWorld_cell w E q j (by rw [Array.length_toList] at hjl; exact hjl)
    rw [Nat.zero_add, this]
    simp [List.getD, hy]
  · exact grownCap_ge w q.size 0 E
theorem e_stL {α : Type} {f : α → Value} {L : List α} {x : α} {t : TypeId} {a b : Operand} {g o : Nat} {E : TypeId} (hf : ∀ x, (f x).oneCell' = true) (hi : (P.info? t).map (·.size) = some 1) (hx : ev e a = some (.pointer (some ⟨g, o, none⟩))) (hy : ev e b = some (f x)) (hb : Blk w g E (L.map f).toArray) (ho : o < L.length)
    (k : ∀ w', Blk w' g E ((L.set o x).map f).toArray → Ch (fun k => k = g) w w' → w'.heap.size = w.heap.size → K e w') : OpE P n ⟨none, .store t a b, rt, pos, af, gd⟩ e w Q K :=
  e_st hi (hf x) hx hy hb (by simpa using ho) (fun w' h => k w' (setL ▸ h))
/-- A variable of one cell. -/
theorem e_st1 {t : TypeId} {a b : Operand} {g : Nat} {E : TypeId} {u v : Value} (hi : (P.info? t).map (·.size) = some 1) (h1 : v.oneCell' = true) (hx : ev e a = some (.pointer (some ⟨g, 0, none⟩))) (hy : ev e b = some v) (hb : Blk w g E #[u])
    (k : ∀ w', Blk w' g E #[v] → Ch (fun k => k = g) w w' → w'.heap.size = w.heap.size → K e w') : OpE P n ⟨none, .store t a b, rt, pos, af, gd⟩ e w Q K :=
  e_st hi h1 hx hy hb (by simp) (fun w' h => k w' (by simpa using h))
/-- An element of a row of the call's own is stored. -/
theorem e_stR {α : Type} {f : α → Value} {xs : List α} {x : α} {t : TypeId} {a b : Operand} {A : Option Addr} {c l g o j : Nat} {E : TypeId} {F : Nat → Prop} (hf : ∀ x, (f x).oneCell' = true) (hi : (P.info? t).map (·.size) = some 1) (hx : ev e a = some (.pointer (some ⟨g, o + j, none⟩))) (hy : ev e b = some (f x)) (R : Row w F E 1 (.slice A l c) l (xs.map f)) (hA : A = some ⟨g, o, none⟩) (hj : j < l)
    (k : ∀ w', Row w' F E 1 (.slice A l c) l ((xs.set j x).map f) → Ch F w w' → w'.heap.size = w.heap.size → K e w') : OpE P n ⟨none, .store t a b, rt, pos, af, gd⟩ e w Q K := by
  obtain ⟨⟨h1, h2⟩, h3⟩ := R
  rcases h2 with ⟨h2, rfl⟩ | ⟨g', cap, cur, hv, hb0, hg, hnc, hm, hs, ht⟩
  · omega
  · injection hv with e1 _ e2
    subst e2
    rw [hA] at e1
    injection e1 with e1
    injection e1 with e3 e4
    subst e3 e4
    subst hA
    rw [Nat.zero_add] at hx
    rw [Nat.mul_one] at hs
    have hF : F g := h3 g rfl
    refine e_st hi (hf x) hx hy hg (by omega) (fun w' hb hc hsz => k w' ?_ (hc.mono (fun i _ hi => hi ▸ hF)) hsz)
    have hR := Row.of_blk (n := l) (sz := 1) hb hF hnc hm (by simp [hs])
    have e5 : (cur.setIfInBounds j (f x)).toList.take (l * 1) = (xs.set j x).map f := by
      rw [Array.toList_setIfInBounds, List.take_set, Nat.mul_one] ; rw [Nat.mul_one] at ht; rw [ht, List.map_set]
    rw [e5] at hR
    exact hR
/-- A variable of many cells is stored whole. -/
theorem e_stW {t : TypeId} {a b : Operand} {g : Nat} {E : TypeId} {cs : Array Value} {vs : List Value} (hi : (P.info? t).map (·.size) = some vs.length) (h1 : ∀ v ∈ vs, v.oneCell' = true) (hx : ev e a = some (.pointer (some ⟨g, 0, none⟩))) (hy : ev e b = some (.agg vs.toArray)) (hb : Blk w g E cs) (hs : cs.size = vs.length)
    (k : ∀ w', Blk w' g E vs.toArray → Ch (fun k => k = g) w w' → w'.heap.size = w.heap.size → K e w') : OpE P n ⟨none, .store t a b, rt, pos, af, gd⟩ e w Q K :=
  e_stA hi h1 hx hy hb (by omega) (fun w' cs' h hl => k w' (by
    have : cs' = vs.toArray := by
      apply Array.toList_inj.1
      rw [hl]
      simp [List.drop_eq_nil_of_le (show cs.toList.length ≤ vs.length by simp [hs])]
    exact this ▸ h))

theorem p_ixS1 {t E : TypeId} {x i : Operand} {A : Option Addr} {b o l c j : Nat} {k : IntKind} {I : Int} (ht : P.underlying t = some (.slice E)) (hsz : (P.info? E).map (·.size) = some 1) (hx : ev e x = some (.slice A l c)) (hA : A = some ⟨b, o, none⟩)
    (hi : ev e i = some (.int k I)) (h0 : 0 ≤ I) (h1 : I < l) (hj : I.toNat = j) : Pu P S n ⟨dst, .indexAddr t x i, rt, pos, af, gd⟩ e (.pointer (some ⟨b, o + j, none⟩)) := p_ixS ht hsz hx hA hi h0 h1 (by rw [Nat.mul_one]; exact hj)
theorem p_ixA1 {t E : TypeId} {x i : Operand} {b l j : Nat} {k : IntKind} {I : Int} (ht : P.underlying t = some (.array l E)) (hsz : (P.info? E).map (·.size) = some 1) (hx : ev e x = some (.pointer (some ⟨b, 0, none⟩)))
    (hi : ev e i = some (.int k I)) (h0 : 0 ≤ I) (h1 : I < l) (hj : I.toNat = j) : Pu P S n ⟨dst, .indexAddr t x i, rt, pos, af, gd⟩ e (.pointer (some ⟨b, j, none⟩)) := by
  have := p_ixA (S := S) (n := n) (dst := dst) (rt := rt) (pos := pos) (af := af) (gd := gd) ht hsz hx hi h0 h1 (j := j) (by rw [Nat.mul_one]; exact hj)
  rwa [Nat.zero_add] at this
theorem p_ixA0 {t E : TypeId} {x i : Operand} {b l j : Nat} {k : IntKind} {I : Int} (ht : P.underlying t = some (.array l E)) (hsz : (P.info? E).map (·.size) = some 1) (hx : ev e x = some (.pointer (some ⟨b, 0, none⟩)))
    (hi : ev e i = some (.int k I)) (h0 : 0 ≤ I) (h1 : I < l) (hj : I.toNat = j) : Pu P S n ⟨dst, .indexAddr t x i, rt, pos, af, gd⟩ e (.pointer (some ⟨b, 0 + j, none⟩)) :=
  p_ixA ht hsz hx hi h0 h1 (j := j) (by rw [Nat.mul_one]; exact hj)
theorem p_ixAo {t E : TypeId} {x i : Operand} {b o l j : Nat} {k : IntKind} {I : Int} (ht : P.underlying t = some (.array l E)) (hsz : (P.info? E).map (·.size) = some 1) (hx : ev e x = some (.pointer (some ⟨b, o, none⟩)))
    (hi : ev e i = some (.int k I)) (h0 : 0 ≤ I) (h1 : I < l) (hj : I.toNat = j) : Pu P S n ⟨dst, .indexAddr t x i, rt, pos, af, gd⟩ e (.pointer (some ⟨b, o + j, none⟩)) :=
  p_ixA ht hsz hx hi h0 h1 (j := j) (by rw [Nat.mul_one]; exact hj)
theorem p_eqnil {t t' E : TypeId} {x y : Operand} {A : Option Addr} {l c l' c' : Nat} (hx : ev e x = some (.slice A l c)) (hy : ev e y = some (.slice none l' c')) (ht : P.underlying t = some (.slice E)) : Pu P S n ⟨dst, .binOp .eql t x y t', rt, pos, af, gd⟩ e (.bool A.isNone) := fun a F w _ => by
  have h2 : (binOp .eql t (.slice A l c) (.slice none l' c')).run P w = .ok (.bool A.isNone) w := Lib.run_eql_slice_nil w t E A l c l' c' ht
  simp [execOp, F.ev hx, F.ev hy, eqGuard, h2]
theorem p_nenil {t t' E : TypeId} {x y : Operand} {A : Option Addr} {l c l' c' : Nat} (hx : ev e x = some (.slice A l c)) (hy : ev e y = some (.slice none l' c')) (ht : P.underlying t = some (.slice E)) : Pu P S n ⟨dst, .binOp .neq t x y t', rt, pos, af, gd⟩ e (.bool (!A.isNone)) := fun a F w _ => by
  have h2 : (binOp .neq t (.slice A l c) (.slice none l' c')).run P w = .ok (.bool (!A.isNone)) w := run_neq_slice_nil_any w t E A l c l' c' ht
  simp [execOp, F.ev hx, F.ev hy, eqGuard, h2]
theorem p_neB {t t' : TypeId} {x y : Operand} {b c : Bool} (hx : ev e x = some (.bool b)) (hy : ev e y = some (.bool c)) (ht : P.underlying t = some .bool) : Pu P S n ⟨dst, .binOp .neq t x y t', rt, pos, af, gd⟩ e (.bool (b != c)) := fun a F w _ => by
  have h : ∀ k, (Op.equalIn (k + 1) t (.bool b) (.bool c)).run P w = .ok (b == c) w := fun k => by simp [Op.equalIn, run_underlying ht]
  have h2 : (Op.equal t (.bool b) (.bool c)).run P w = .ok (b == c) w := h 9999
  simp [execOp, F.ev hx, F.ev hy, binOp, eqGuard, h2, bne]
theorem p_max {x y : Operand} {ts : Array TypeId} {k k' : IntKind} {X Y : Int} (hx : ev e x = some (.int k X)) (hy : ev e y = some (.int k' Y)) : Pu P S n ⟨dst, .call { callee := .builtin .max, args := #[x, y], argTypes := ts }, rt, pos, af, gd⟩ e (.int k (if Y > X then Y else X)) := fun a F w _ => by
  simp [execOp, resolve, invoke, builtin, Builtin.max_, Builtin.max2, F.ev hx, F.ev hy]
theorem p_maxE {x y : Operand} {ts : Array TypeId} {k k' : IntKind} {X Y Z : Int} (hx : ev e x = some (.int k X)) (hy : ev e y = some (.int k' Y)) (hz : (if Y > X then Y else X) = Z) : Pu P S n ⟨dst, .call { callee := .builtin .max, args := #[x, y], argTypes := ts }, rt, pos, af, gd⟩ e (.int k Z) := hz ▸ p_max hx hy
theorem p_mkf {fn : Fn} {xs : Array Operand} {vs : List Value} (hvs : evs e xs.toList = some vs) : Pu P S n ⟨dst, .makeFunc fn #[] xs, rt, pos, af, gd⟩ e (.func fn #[] vs.toArray) := fun a F w _ => by
  have h : xs.map a.eval = vs.toArray := by
    apply Array.toList_inj.1
    rw [Array.toList_map, F.evs hvs]
  simp [execOp, Instr.makeFunc, h]
/-- A function value is called. -/
theorem e_callV {f : FuncId} (hf : Ent P f) {x : Operand} {xs : Array Operand} {ts : Array TypeId} {vs cs : List Value} {R : Ending → World → Prop} (hlt : Nat.blt d n = true) (hx : ev e x = some (.func (.func f) #[] cs.toArray)) (hvs : evs e xs.toList = some vs) (hc : Calls P f (vs ++ cs).toArray w R)
    (k : ∀ ed w', R ed w' → ∃ v, ed = .returned v ∧ K ((d, v) :: e) w') : OpE P n ⟨some d, .call { callee := .value x, args := xs, argTypes := ts }, rt, pos, af, gd⟩ e w Q K := fun a F => .inl (by
  have hargs : xs.map a.eval = vs.toArray := by
    apply Array.toList_inj.1
    rw [Array.toList_map, F.evs hvs]
  have hr : (execOp a.eval ⟨some d, .call { callee := .value x, args := xs, argTypes := ts }, rt, pos, af, gd⟩).run P w = .ok (.enter f (vs ++ cs).toArray) w := by
    simp only [execOp, resolve, hargs, F.ev hx, Deferred.ofValue]
    simp [invoke, run_enter hf]
  simp only [Oper.wp, hr, Oper.upon]
  refine hc.mono fun ed w' hR => ?_
  obtain ⟨v, rfl, hK⟩ := k ed w' hR
  exact ⟨_, F.put hlt v, hK⟩)
theorem p_min {x y : Operand} {ts : Array TypeId} {k k' : IntKind} {X Y : Int} (hx : ev e x = some (.int k X)) (hy : ev e y = some (.int k' Y)) : Pu P S n ⟨dst, .call { callee := .builtin .min, args := #[x, y], argTypes := ts }, rt, pos, af, gd⟩ e (.int k (if Y < X then Y else X)) := fun a F w _ => by
  simp [execOp, resolve, invoke, builtin, Builtin.min_, Builtin.min2, F.ev hx, F.ev hy]
theorem p_convU8 {s t : TypeId} {x : Operand} {k : IntKind} {X : Int} {D : TypeDesc} (hs : P.underlying s = some D) (ht : P.underlying t = some (.int .u8)) (hx : ev e x = some (.int k X)) (h0 : 0 ≤ X) : Pu P S n ⟨dst, .convert s t x, rt, pos, af, gd⟩ e (u8v (UInt8.ofNat X.toNat)) :=
  p_conv hs ht hx (by
    obtain ⟨y, rfl⟩ := Int.eq_ofNat_of_zero_le h0
    rw [wu8n]; simp)
theorem p_convN8 {s t : TypeId} {x : Operand} {k : IntKind} {X : Nat} {D : TypeDesc} (hs : P.underlying s = some D) (ht : P.underlying t = some (.int .u8)) (hx : ev e x = some (.int k (X : Int))) : Pu P S n ⟨dst, .convert s t x, rt, pos, af, gd⟩ e (u8v (UInt8.ofNat X)) :=
  p_conv hs ht hx (by rw [wu8n]; simp)
theorem p_convB32 {s t : TypeId} {x : Operand} {b : UInt8} {D : TypeDesc} (hs : P.underlying s = some D) (ht : P.underlying t = some (.int .u32)) (hx : ev e x = some (u8v b)) : Pu P S n ⟨dst, .convert s t x, rt, pos, af, gd⟩ e (u32v (BitVec.ofNat 32 b.toNat)) :=
  p_conv hs ht hx (by rw [wu32n, BitVec.toNat_ofNat])
theorem p_conv32B {s t : TypeId} {x : Operand} {X : BitVec 32} {D : TypeDesc} (hs : P.underlying s = some D) (ht : P.underlying t = some (.int .u8)) (hx : ev e x = some (u32v X)) : Pu P S n ⟨dst, .convert s t x, rt, pos, af, gd⟩ e (u8v (UInt8.ofNat X.toNat)) :=
  p_conv hs ht hx (by rw [wu8n]; simp)

/-- append onto a row of elements of one cell each. -/
theorem e_appS {α : Type} {f : α → Value} {t E : TypeId} {a b : Operand} {by_ : Nat} {v : Value} {l m c : Nat} {ys xs : List α} {F Fx : Nat → Prop} {A : Option Addr} (hlt : Nat.blt d n = true) (ht : ElT P t E 1 by_) (hf : ∀ x, (f x).oneCell' = true) (hs : ev e a = some v) (hx : ev e b = some (.slice A m c)) (R : Row w F E 1 v l (ys.map f)) (X : Sl w Fx f A m c xs)
    (hb : (l + m) * by_ ≤ 140737488355328) (hF : ∀ k, w.heap.size ≤ k → F k)
    (k : ∀ w' A' c', Row w' F E 1 (.slice A' (l + m) c') (l + m) ((ys ++ xs).map f) → Ch F w w' → K ((d, .slice A' (l + m) c') :: e) w') (h63 : l + m ≤ maxLen := by unfold maxLen; omega) : OpE P n ⟨some d, .call { callee := .builtin .append, args := #[a, b], argTypes := #[t, t] }, rt, pos, af, gd⟩ e w Q K :=
  e_app hlt ht hs hx R X.rd (by rw [List.length_map, X.len, Nat.mul_one]) (oneL hf xs) hb h63 hF (fun w' v' h c => by
    obtain ⟨A', c', rfl⟩ := h.shape
    exact k w' A' c' (by rw [List.map_append]; exact h) c)
/-- append(b, s...) onto a row of bytes. -/
theorem e_appB {t u E : TypeId} {a b : Operand} {v : Value} {l : Nat} {ys : List UInt8} {F : Nat → Prop} {q : ByteArray} (hlt : Nat.blt d n = true) (ht : ElT P t E 1 1) (hz : (P.info? E).map (·.zero) = some (some (.int .u8 0))) (hu : P.underlying u = some .string) (hs : ev e a = some v) (hx : ev e b = some (.string q)) (R : Row w F E 1 v l (ys.map u8v))
    (hb : l + q.size ≤ 140737488355328) (hF : ∀ k, w.heap.size ≤ k → F k)
    (k : ∀ w' A' c', Row w' F E 1 (.slice A' (l + q.size) c') (l + q.size) ((ys ++ q.data.toList).map u8v) → Ch F w w' → K ((d, .slice A' (l + q.size) c') :: e) w') : OpE P n ⟨some d, .call { callee := .builtin .append, args := #[a, b], argTypes := #[t, u] }, rt, pos, af, gd⟩ e w Q K :=
  e_appT hlt ht hz hu hs hx R hb hF (fun w' v' h c => by
    obtain ⟨A', c', rfl⟩ := h.shape
    exact k w' A' c' (by rw [List.map_append]; exact h) c)

theorem ElT.of {t E : TypeId} {z : Value} {sz by_ : Nat} (ht : P.underlying t = some (.slice E)) (hi : (P.info? E).map (fun i => (i.zero, i.size, i.bytes)) = some (some z, sz, by_)) (hz : z.cells.size = sz) (h0 : 0 < sz) : ElT P t E sz by_ := by
  obtain ⟨i, h1, h2, h3, h4⟩ := info_parts hi
  exact ⟨ht, ⟨i, z, h1, h2, h3, h4, hz⟩, h0⟩
/-- Numbers without a sign, as natural numbers. -/
theorem p_shrN {t t' : TypeId} {x y : Operand} {k k' : IntKind} {X Y : Nat} (hx : ev e x = some (.int k (X : Int))) (hy : ev e y = some (.int k' (Y : Int))) (hY : Nat.ble Y k.bits = true) : Pu P S n ⟨dst, .binOp .shr t x y t', rt, pos, af, gd⟩ e (.int k ((X / 2 ^ Y : Nat) : Int)) :=
  p_shr hx hy (by omega) (by
    rw [Int.toNat_natCast, Nat.min_eq_left (Nat.le_of_ble_eq_true hY), show ((2 : Int) ^ Y) = ((2 ^ Y : Nat) : Int) by push_cast; rfl, Int.fdiv_eq_ediv_of_nonneg _ (Int.natCast_nonneg _), ← Int.natCast_ediv])
theorem p_shl64 {t t' : TypeId} {x y : Operand} {k' : IntKind} {X Y : Nat} (hx : ev e x = some (u64v X)) (hy : ev e y = some (.int k' (Y : Int))) (hY : Nat.ble Y 64 = true) : Pu P S n ⟨dst, .binOp .shl t x y t', rt, pos, af, gd⟩ e (u64v (X * 2 ^ Y % 18446744073709551616)) :=
  p_shl hx hy (by omega) (by
    rw [Int.toNat_natCast, show IntKind.u64.bits = 64 from rfl, Nat.min_eq_left (Nat.le_of_ble_eq_true hY), show ((2 : Int) ^ Y) = ((2 ^ Y : Nat) : Int) by push_cast; rfl, ← Int.natCast_mul, wu64n])
theorem ofInt_nat64 (x : Nat) (h : x < 18446744073709551616) : (BitVec.ofInt 64 (x : Int)).toNat = x := by rw [BitVec.ofInt_natCast, BitVec.toNat_ofNat]; exact Nat.mod_eq_of_lt h
theorem p_or64 {t t' : TypeId} {x y : Operand} {X Y : Nat} (hx : ev e x = some (u64v X)) (hy : ev e y = some (u64v Y)) (h1 : X < 18446744073709551616) (h2 : Y < 18446744073709551616) : Pu P S n ⟨dst, .binOp .or t x y t', rt, pos, af, gd⟩ e (u64v (X ||| Y)) :=
  p_bits (by simp) hx hy (fun w => by
    have h3 : (X ||| Y) < 2 ^ 64 := Nat.or_lt_two_pow (by omega) (by omega)
    show Result.ok (Value.int .u64 (IntKind.u64.wrap (((BitVec.ofInt 64 (X : Int)) ||| (BitVec.ofInt 64 (Y : Int))).toNat : Int))) w = _
    rw [BitVec.toNat_or, ofInt_nat64 X h1, ofInt_nat64 Y h2, wu64n, Nat.mod_eq_of_lt (by omega)])

theorem Ch.setRow (w : World) (g : Nat) (cs : Array Value) : Ch (fun k => k = g) w (w.setRow g cs) := ⟨rfl, rfl, rfl, by simp, fun k _ hn => setRow_other w g k cs hn⟩
/-- arr[l:] of a local array of elements of one cell. -/
theorem p_slA1 {t E : TypeId} {x : Operand} {lo hi : Option Operand} {b N l h : Nat} (ht : P.underlying t = some (.array N E)) (hsz : (P.info? E).map (·.size) = some 1) (hx : ev e x = some (.pointer (some ⟨b, 0, none⟩)))
    (hl : match lo with | none => l = 0 | some y => ∃ k, ev e y = some (.int k (l : Int))) (hh : match hi with | none => h = N | some y => ∃ k, ev e y = some (.int k (h : Int))) (h1 : l ≤ h) (h2 : h ≤ N) (h3 : l < N) :
    Pu P S n ⟨dst, .slice t x lo hi none, rt, pos, af, gd⟩ e (.slice (some ⟨b, l, none⟩) (h - l) (N - l)) := by
  have := p_slA (S := S) (n := n) (dst := dst) (rt := rt) (pos := pos) (af := af) (gd := gd) ht hsz hx hl hh h1 h2
  rwa [if_neg (by omega), Nat.zero_add, Nat.mul_one] at this
/-- copy(dst, src), dst a part of a local array. -/
theorem p_slA2 {t E : TypeId} {x : Operand} {lo : Operand} {b o N l : Nat} (ht : P.underlying t = some (.array N E)) (hsz : (P.info? E).map (·.size) = some 1) (hx : ev e x = some (.pointer (some ⟨b, o, none⟩)))
    (hl : ∃ k, ev e lo = some (.int k (l : Int))) (h1 : l < N) : Pu P S n ⟨dst, .slice t x (some lo) none none, rt, pos, af, gd⟩ e (.slice (some ⟨b, o + l, none⟩) (N - l) (N - l)) := by
  have := p_slA (S := S) (n := n) (e := e) (dst := dst) (rt := rt) (pos := pos) (af := af) (gd := gd) (hi := none) (h := N) ht hsz hx (lo := some lo) hl rfl (by omega) (Nat.le_refl _)
  rwa [if_neg (by omega), Nat.mul_one] at this
theorem e_copy {α : Type} {f : α → Value} {t t' E E' : TypeId} {a b : Operand} {g o m c l c' : Nat} {A : Option Addr} {L xs : List α} {F : Nat → Prop} (hlt : Nat.blt d n = true) (ht : P.underlying t = some (.slice E)) (hsz : (P.info? E).map (·.size) = some 1) (hf : ∀ x, (f x).oneCell' = true)
    (hx : ev e a = some (.slice (some ⟨g, o, none⟩) m c)) (hy : ev e b = some (.slice A l c')) (hb : Blk w g E' (L.map f).toArray) (X : Sl w F f A l c' xs) (ho : o + m ≤ L.length)
    (k : ∀ w', Blk w' g E' ((L.take o ++ xs.take (min l m) ++ L.drop (o + min l m)).map f).toArray → Ch (fun k => k = g) w w' → w'.heap.size = w.heap.size → K ((d, i64 ((min l m : Nat) : Int)) :: e) w') : OpE P n ⟨some d, .call { callee := .builtin .copy, args := #[a, b], argTypes := #[t, t'] }, rt, pos, af, gd⟩ e w Q K := by
  obtain ⟨inf, hinf, hs1⟩ := Option.map_eq_some_iff.1 hsz
  have hlen : (xs.take (min l m)).length = min l m := by rw [List.length_take, X.len]; omega
  obtain ⟨q, hq⟩ : ∃ q, q = min l m := ⟨_, rfl⟩
  have hq' : Nat.min l m = q := hq.symm
  have hqm : q ≤ m := by omega
  have X2 := X.rd.take q
  rw [← List.map_take] at X2
  rw [← hq] at hlen k
  generalize xs.take q = ys at X2 hlen k
  have hfirst : (Builtin.firstCells 1 q (.slice A l c')).run P w = .ok (ys.map f).toArray w := by
    rcases X2 with h | ⟨b', o', rfl, _, hc⟩
    · have h0 : ys = [] := by simpa using h
      subst h0
      have hq0 : q = 0 := by simpa using hlen.symm
      subst hq0
      cases A <;> simp [Builtin.firstCells, loadCells, loadCellsFrom]
    · exact run_firstCells_some (P := P) (w := w) 1 q ⟨b', o', none⟩ l c' (ys.map f) (by simp [hlen]) (fun j v hj => by rw [Addr.add_mid]; exact hc j v hj)
  have hst := run_storeCells_at P g o E' (ys.map f) 0 (L.map f).toArray w hb (by simp [hlen]; omega) (oneL hf _)
  simp only [Nat.add_zero, List.length_map, hlen] at hst
  have hrow : ((L.map f).toArray.toList.take o ++ ys.map f ++ (L.map f).toArray.toList.drop (o + q)).toArray = ((L.take o ++ ys ++ L.drop (o + q)).map f).toArray := by simp [List.map_append, List.map_take, List.map_drop]
  rw [hrow] at hst
  have hrun : (Builtin.copy_ #[t, t'] rt #[.slice (some ⟨g, o, none⟩) m c, .slice A l c']).run P w = .ok (i64 (q : Int)) (w.setRow g ((L.take o ++ ys ++ L.drop (o + q)).map f).toArray) := by
    generalize (L.take o ++ ys ++ L.drop (o + q)).map f = Z at hst
    generalize ys.map f = Y at hst hfirst
    simp [Builtin.copy_, run_underlying ht, Builtin.lenOf, sizeOf, typeInfo, hinf, hs1, hq', hfirst, hst, goInt]
  refine e_of_run rfl hlt (fun a F => ?_) (k _ (setRow_heap w g _ _ E' _ hb) (Ch.setRow w g _) (by simp))
  simp [execOp, resolve, invoke, builtin, F.ev hx, F.ev hy, hrun]
/-- An element of an array's value. -/
theorem p_ixG {α : Type} {f : α → Value} {L : List α} {t E : TypeId} {D : TypeDesc} {x i : Operand} {N j : Nat} {k : IntKind} {I : Int} {d0 : α} (ht : P.underlying t = some (.array N E)) (hE : P.underlying E = some D) (hfl : flatT D = true) (hsz : (P.info? E).map (·.size) = some 1) (hx : ev e x = some (.agg (L.map f).toArray)) (hi : ev e i = some (.int k I)) (h0 : 0 ≤ I) (h1 : I < N) (hL : L.length = N) (hj : I.toNat = j) : Pu P S n ⟨dst, .index t x i, rt, pos, af, gd⟩ e (f (L.getD j d0)) := fun a F w _ => by
  obtain ⟨inf, hinf, hs1⟩ := Option.map_eq_some_iff.1 hsz
  subst hj
  have hlt : I.toNat < L.length := by omega
  have hag : (isAgg E).run P w = .ok false w := by
    cases D <;> simp [flatT] at hfl <;> simp [isAgg, run_underlying hE]
  have hcell : (L.map f).toArray[I.toNat]? = some (f (L.getD I.toNat d0)) := by simp [List.getElem?_eq_getElem hlt, List.getD]
  have hrun : (Instr.index t (.agg (L.map f).toArray) (.int k I)).run P w = .ok (f (L.getD I.toNat d0)) w := by
    simp only [Instr.index, asIntOf, Sem.run_bind, Sem.run_pure, Result.andThen_ok, run_underlying ht, h0, h1, and_self, if_true, sizeOf, typeInfo, program, Sem.run, hinf, hs1, Nat.mul_one, part, hag, Bool.false_eq_true, if_false, hcell]
  simp only [execOp, F.ev hx, F.ev hi, Sem.run_bind, hrun, Result.andThen_ok, Sem.run_pure]

/-! ### Results that lie in memory -/
theorem resC {fn : Func} {p ty g : Nat} {D : TypeDesc} {cs : List Value} (hres : fn.results = #[.cell p ty]) (hl : look p e = some (.pointer (some ⟨g, 0, none⟩))) (hd : P.underlying ty = some D) (hf : flatT D = false) (hi : (P.info? ty).map (·.size) = some cs.length) (hr : w.rangeAt g 0 cs) : ∀ a, Fr n a e → (results fn a.tmps).run P w = .ok (.agg cs.toArray) w := fun a F => by
  have h := run_loadVar_mid (P := P) w g 0 ty cs D hr hd (by cases D <;> simp [flatT] at hf <;> simp) hi
  have hg : a.tmps[p]?.getD undef = .pointer (some ⟨g, 0, none⟩) := by have := F.get p _ hl; rwa [Array.getD_eq_getD_getElem?] at this
  simp [results, hres, hg, asAddr, h]
theorem resC1 {fn : Func} {p ty g : Nat} {D : TypeDesc} {E : TypeId} {v : Value} (hres : fn.results = #[.cell p ty]) (hl : look p e = some (.pointer (some ⟨g, 0, none⟩))) (hd : P.underlying ty = some D) (hf : flatT D = true) (hb : Blk w g E #[v]) : ∀ a, Fr n a e → (results fn a.tmps).run P w = .ok v w := fun a F => by
  have h := run_loadVar_flat (P := P) hd hf (hb.cell (i := 0) (v := v) rfl)
  have hg : a.tmps[p]?.getD undef = .pointer (some ⟨g, 0, none⟩) := by have := F.get p _ hl; rwa [Array.getD_eq_getD_getElem?] at this
  simp [results, hres, hg, asAddr, h]
end
end Go.Gx
