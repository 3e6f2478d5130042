/-
  Own text: how the records of this seat lie: items, hashes, steps of a way, acts, nodes of a proof, turns.
-/
import Derived.Test.YtkfkdakghjlenaaDoorGxRec
import Derived.Test.YtkfkdakghjlenaaDoorPlTrieFil
import Derived.Test.YtkfkdakghjlenaaDoorPlMulti
set_option linter.unusedSimpArgs false
set_option linter.unusedVariables false
namespace Go.Gx
open Go.RowKit Go.Plain
theorem one_map (L : List UInt8) : ∀ v ∈ L.map u8v, v.oneCell' = true := oneL one_u8 L
/-- A key and its value. -/
def eIT : Enc (H8 × H8) where
  n := 64
  pos := by decide
  f x := List.map u8v x.1 ++ List.map u8v x.2
  ok x := x.1.length = 32 ∧ x.2.length = 32
  len x h := by simp [h.1, h.2]
  one x := oneA (one_map _) (one_map _)
def eH : Enc H8 where
  n := 32
  pos := by decide
  f x := List.map u8v x
  ok x := x.length = 32
  len x h := by simp [h]
  one x := one_map _
def eST : Enc Stp where
  n := 33
  pos := by decide
  f x := [i64 x.bit] ++ List.map u8v x.side
  ok x := x.side.length = 32
  len x h := by simp [h]
  one x := oneA (allOne rfl) (one_map _)
structure AC where
  k : H8
  v : H8
  dr : Bool
def eAC : Enc AC where
  n := 65
  pos := by decide
  f x := List.map u8v x.k ++ (List.map u8v x.v ++ [.bool x.dr])
  ok x := x.k.length = 32 ∧ x.v.length = 32
  len x h := by simp [h.1, h.2]
  one x := oneA (one_map _) (oneA (one_map _) (allOne rfl))
section
variable {α : Type} {E : Enc α} {w : World} {F : Nat → Prop} {A : Option Addr} {l c : Nat} {xs : List α}
theorem SI.okAt (h : SI w F E A l c xs) {d : α} {i : Nat} (hi : i < l) : E.ok (xs.getD i d) := by
  have hil : i < xs.length := by rw [h.len]; exact hi
  rw [show xs.getD i d = xs[i] by simp [List.getD, List.getElem?_eq_getElem hil]]
  exact h.ok _ (List.getElem_mem hil)
theorem SI.oneA {g : Nat} {t : TypeId} {x : α} {cs : List Value} (hb : Blk w g t ([Value.agg cs.toArray].flatMap fun v => v.cells.toList).toArray) (hc : cs = E.f x) (hx : E.ok x) : SI w (fun k => k = g) E (some ⟨g, 0, none⟩) 1 1 [x] := by
  refine SI.one hb ?_ hx
  rw [← hc]
  show ([Value.agg cs.toArray].flatMap fun v => v.cells.toList) = cs
  simp [Value.cells]
theorem getD_drop {i : Nat} {d : α} (hi : i < xs.length) : xs.drop i = xs.getD i d :: xs.drop (i + 1) := by
  rw [List.drop_eq_getElem_cons hi]
  simp [List.getD, List.getElem?_eq_getElem hi]
theorem getD_take {i : Nat} {d : α} (hi : i < xs.length) : xs.take (i + 1) = xs.take i ++ [xs.getD i d] := by
  rw [List.take_succ_eq_append_getElem hi]
  simp [List.getD, List.getElem?_eq_getElem hi]
theorem getD_mem {i : Nat} {d : α} (hi : i < xs.length) : xs.getD i d ∈ xs := by
  simp [List.getD, List.getElem?_eq_getElem hi]
end
/-! ### Rows apart by what they hold -/
section
variable {α : Type} {E : Enc α} {w w' : World} {T F B : Nat → Prop} {t t' : TypeId} {A : Option Addr} {l c : Nat} {xs : List α}
/-- What an append to a row of t may change: blocks of t, and new ones. -/
abbrev YS (w : World) (B : Nat → Prop) (t : TypeId) : Nat → Prop := fun k => (B k ∧ ∃ cs, Blk w k t cs) ∨ w.heap.size ≤ k
end
/-! ### Tries behind a pointer -/
def adsO (o : Option LT) : List Nat := o.elim [] LT.ads
def eo (o : Option LT) : Option Tr := o.map LT.er
section
variable {M N : TypeId} {w w' : World} {T F G : Nat → Prop} {v : Value} {o : Option LT}
theorem TR.fil (h : TR M N F w v o) (c : Ch T w w') (hm : ∀ k, T k → ∃ cs, Blk w k N cs) (f : Fil N w w') (hMN : M ≠ N := by decide) : TR M N F w' v o := by
  obtain ⟨g, h1, h2, h3, h4⟩ := h
  exact ⟨g, h1, h2, h3.ch c (h3.not_nd hm hMN), fun t e => (h4 t e).fil f⟩
theorem TR.opn (h : TR M N F w v o) : ∃ g, v = ndp g ∧ F g ∧ Blk w g M #[.pointer (topa o), .bool true] ∧ ∀ t, o = some t → LF N F w t := h
end
def szO (o : Option LT) : Nat := o.elim 0 LT.size
def wayT : Option Tr → H8 → List Stp
  | none, _ => []
  | some t, k => t.way k
def endT : Option Tr → H8 → H8 × H8 × Bool
  | none, _ => (zeroH, zeroH, false)
  | some t, k => ((t.find k).1, (t.find k).2, true)
/-! ### Rows of proofs -/
structure RP where
  A : Option Addr
  l : Nat
  c : Nat
  lf : Bool
  u : H8
  x : H8
def eRP : Enc RP where
  n := 66
  pos := by decide
  f q := [.slice q.A q.l q.c, .bool q.lf] ++ (List.map u8v q.u ++ List.map u8v q.x)
  ok q := q.u.length = 32 ∧ q.x.length = 32
  len q h := by simp [h.1, h.2]
  one q := oneA (allOne rfl) (oneA (one_map _) (one_map _))
def RP0 : RP := ⟨none, 0, 0, false, zeroH, zeroH⟩
/-- The proofs of some keys, one by one. -/
def PSok (w : World) (t : TypeId) (e : Option Tr) (ks : List H8) (ps : List RP) : Prop :=
  ∀ j, j < ps.length → RI w (fun _ => True) t eST (ps.getD j RP0).A (ps.getD j RP0).l (ps.getD j RP0).c (wayT e (ks.getD j zeroH)) ∧ ((ps.getD j RP0).u, (ps.getD j RP0).x, (ps.getD j RP0).lf) = endT e (ks.getD j zeroH)
section
variable {w w' : World} {t t' : TypeId} {e : Option Tr} {ks : List H8} {ps : List RP} {T : Nat → Prop}
theorem PSok.no (h : PSok w t e ks ps) (c : Ch No w w') : PSok w' t e ks ps := fun j hj => ⟨(h j hj).1.no c, (h j hj).2⟩
theorem PSok.nil : PSok w t e ks [] := fun j hj => by simp at hj
end
/-- A tree, or none, in F. -/
def OTr (N : TypeId) (F : Nat → Prop) (w : World) (o : Option LT) : Prop := ∀ t, o = some t → LF N F w t
section
variable {M N : TypeId} {w w' : World} {T F G : Nat → Prop} {v : Value} {o : Option LT}
theorem OTr.no (h : OTr N F w o) (c : Ch No w w') : OTr N F w' o := fun t e => (h t e).no c
theorem OTr.fil (h : OTr N F w o) (f : Fil N w w') : OTr N F w' o := fun t e => (h t e).fil f
theorem OTr.ch (h : OTr N F w o) (c : Ch T w w') (hn : ∀ k, k < w.heap.size → F k → ¬ T k) : OTr N F w' o := fun t e => (h t e).ch c hn
theorem OTr.lt (h : OTr N F w o) : ∀ a, a ∈ adsO o → a < w.heap.size := by
  cases o with
  | none => intro a ha; simp [adsO] at ha
  | some t => exact fun a ha => (h t rfl).1.lt a ha
theorem OTr.chA (h : OTr N F w o) (c : Ch T w w') (hn : ∀ k, k ∈ adsO o → ¬ T k) : OTr N F w' o := by
  intro t e
  subst e
  exact ⟨(h t rfl).1.ch c (fun a ha => hn a ha), (h t rfl).2⟩
theorem OTr.blk (h : OTr N F w o) : ∀ a, a ∈ adsO o → ∃ cs, Blk w a N cs := by
  cases o with
  | none => intro a ha; simp [adsO] at ha
  | some t => exact fun a ha => (h t rfl).1.mem_blk a ha
theorem OTr.inF (h : OTr N F w o) : ∀ a, a ∈ adsO o → F a := by
  cases o with
  | none => intro a ha; simp [adsO] at ha
  | some t => exact fun a ha => (h t rfl).2 a ha
theorem OTr.out (h : OTr N F w o) {A l c : Nat} {xs : List (BitVec 32)} {G : Nat → Prop} (hs : Sl w G u32v (some ⟨A, 0, none⟩) l c xs) (h0 : 0 < l) : A ∉ adsO o := by
  cases o with
  | none => simp [adsO]
  | some t => exact sl_out hs h0 (h t rfl).1
theorem Fil.ofO (h : OTr N F w o) (c : Ch (fun k => k ∈ adsO o) w w') (h' : ∀ t, o = some t → LAt N w' t) : Fil N w w' := by
  cases o with
  | none => exact Fil.no (c.mono (fun _ _ h => by simp [adsO] at h))
  | some t => exact Fil.of (h t rfl).1 c (h' t rfl)
theorem TR.mk' {g : Nat} (hF : F g) (hb : Blk w g M #[.pointer (topa o), .bool true]) (ht : OTr N F w o) : TR M N F w (ndp g) o := ⟨g, rfl, hF, hb, ht⟩
theorem TR.ot (h : TR M N F w v o) : OTr N F w o := by
  obtain ⟨g, h1, h2, h3, h4⟩ := h
  exact h4
end
/-! ### Tries made by puts -/
def mkT (l : List (H8 × H8)) : Option Tr := l.foldl (fun o x => putT o x.1 x.2) none
theorem mkT_snoc (l : List (H8 × H8)) (x : H8 × H8) : mkT (l ++ [x]) = putT (mkT l) x.1 x.2 := by simp [mkT]
theorem mkT_take {l : List (H8 × H8)} {i : Nat} {d : H8 × H8} (hi : i < l.length) : mkT (l.take (i + 1)) = putT (mkT (l.take i)) (l.getD i d).1 (l.getD i d).2 := by rw [getD_take (d := d) hi, mkT_snoc]
theorem putT_cnt {o : Option Tr} {k v : H8} : cntT (putT o k v) ≤ cntT o + 1 := by
  cases o with
  | none => exact Nat.le_refl _
  | some t => exact Tr.put_cnt
theorem mkT_ok : ∀ (l : List (H8 × H8)) (i : Nat), (∀ x ∈ l, x.1.length = 32 ∧ x.2.length = 32) → i ≤ l.length → WFO (mkT (l.take i)) ∧ cntT (mkT (l.take i)) ≤ i
  | l, 0, h, _ => ⟨fun t e => by simp [mkT] at e, Nat.le_refl _⟩
  | l, i + 1, h, hi => by
    obtain ⟨h1, h2⟩ := mkT_ok l i h (by omega)
    have hx := h _ (getD_mem (d := (zeroH, zeroH)) (show i < l.length by omega))
    rw [mkT_take (d := (zeroH, zeroH)) (by omega)]
    exact ⟨putT_wf h1 hx.1 hx.2, Nat.le_trans putT_cnt (by omega)⟩
theorem mkT_all {l : List (H8 × H8)} (h : ∀ x ∈ l, x.1.length = 32 ∧ x.2.length = 32) : WFO (mkT l) ∧ cntT (mkT l) ≤ l.length := by
  have := mkT_ok l l.length h (Nat.le_refl _)
  rwa [List.take_length] at this
end Go.Gx
