/-
  Own text: a tree in memory: its nodes' records, what stays as other things change, what a node's hash is as it is reckoned. Over any program.
-/
import Derived.Test.YtkfkdakghjlenaaDoorGxLay
import Derived.Test.YtkfkdakghjlenaaDoorPlTrie
set_option linter.unusedSimpArgs false
set_option linter.unusedVariables false
namespace Go.Gx
open Go.RowKit Go.Plain
abbrev ndp (g : Nat) : Value := .pointer (some ⟨g, 0, none⟩)
/-- A node's cells; d: is its hash reckoned; m: is its lock taken. -/
def nodeC (b : Nat) (p q : Value) (k v : H8) (c : Nat) (d m : Nat) (h : H8) : List Value :=
  [i64 (b : Int), p, q] ++ (List.map u8v k ++ (List.map u8v v ++ ([i64 (c : Int), Value.int .u32 (d : Int), Value.int .i32 (m : Int), Value.int .u32 0] ++ List.map u8v h)))
def CacheOK (d : Nat) (h r : H8) : Prop := h.length = 32 ∧ (d = 0 ∨ d = 1 ∧ h = r)
/-- The record of a tree's top node. -/
def NdAt (N : TypeId) (w : World) : LT → Prop
  | .leaf g k v => k.length = 32 ∧ v.length = 32 ∧ ∃ d h, CacheOK d h (itemH k v) ∧ Blk w g N (nodeC 256 (.pointer none) (.pointer none) k v 1 d 0 h).toArray
  | .fork g b x y => b < 256 ∧ (x.er.cnt + y.er.cnt ≤ 4611686018427387904) ∧ x.er.key.length = 32 ∧ ∃ d h, CacheOK d h (forkH (b8i (b : Int)) x.er.root y.er.root) ∧ Blk w g N (nodeC b (ndp x.adr) (ndp y.adr) x.er.key zeroH (x.er.cnt + y.er.cnt) d 0 h).toArray
def LAt (N : TypeId) (w : World) : LT → Prop
  | .leaf g k v => NdAt N w (.leaf g k v)
  | .fork g b x y => NdAt N w (.fork g b x y) ∧ LAt N w x ∧ LAt N w y
section
variable {N : TypeId} {w w' : World} {T U : Nat → Prop}
theorem LAt.nd : ∀ {t : LT}, LAt N w t → NdAt N w t
  | .leaf _ _ _, h => h
  | .fork _ _ _ _, h => h.1
theorem NdAt.ch (c : Ch T w w') : ∀ {t : LT}, NdAt N w t → ¬ T t.adr → NdAt N w' t
  | .leaf _ _ _, ⟨h1, h2, d, h, h3, h4⟩, hn => ⟨h1, h2, d, h, h3, h4.ch c hn⟩
  | .fork _ _ _ _, ⟨h1, h0, h2, d, h, h3, h4⟩, hn => ⟨h1, h0, h2, d, h, h3, h4.ch c hn⟩
theorem LAt.ch (c : Ch T w w') : ∀ {t : LT}, LAt N w t → (∀ a ∈ t.ads, ¬ T a) → LAt N w' t
  | .leaf _ _ _, h, hn => NdAt.ch c h (hn _ (by simp [LT.ads, LT.adr]))
  | .fork g b x y, ⟨h1, h2, h3⟩, hn => ⟨h1.ch c (hn _ (by simp [LT.ads, LT.adr])), h2.ch c (fun a ha => hn a (by simp [LT.ads, ha])), h3.ch c (fun a ha => hn a (by simp [LT.ads, ha]))⟩
theorem LAt.no {t : LT} (h : LAt N w t) (c : Ch No w w') : LAt N w' t := h.ch c (fun _ _ h => h)
theorem LAt.lt : ∀ {t : LT}, LAt N w t → ∀ a ∈ t.ads, a < w.heap.size
  | .leaf g k v, ⟨_, _, _, _, _, h⟩, a, ha => by simp [LT.ads] at ha; subst ha; exact h.lt
  | .fork g b x y, ⟨⟨_, _, _, _, _, _, h⟩, h2, h3⟩, a, ha => by
    simp only [LT.ads, List.mem_cons, List.mem_append] at ha
    rcases ha with rfl | ha | ha
    · exact h.lt
    · exact h2.lt a ha
    · exact h3.lt a ha
theorem LAt.ok : ∀ {t : LT}, LAt N w t → t.er.Ok
  | .leaf _ _ _, h => ⟨h.1, h.2.1⟩
  | .fork _ _ _ _, ⟨h1, h2, h3⟩ => ⟨h1.1, h2.ok, h3.ok⟩
theorem LAt.cnt_le : ∀ {t : LT}, LAt N w t → t.er.cnt ≤ 4611686018427387904
  | .leaf _ _ _, _ => by show 1 ≤ _; omega
  | .fork _ _ _ _, ⟨h1, _, _⟩ => h1.2.1
theorem map_u8_inj {a b : H8} (h : List.map u8v a = List.map u8v b) : a = b := by
  induction a generalizing b with
  | nil => cases b with
    | nil => rfl
    | cons x r => simp at h
  | cons x r ih => cases b with
    | nil => simp at h
    | cons y s =>
      simp only [List.map_cons, List.cons.injEq] at h
      obtain ⟨h1, h2⟩ := h
      rw [ih h2]
      congr 1
      injection h1 with _ h1
      exact UInt8.toNat_inj.1 (by omega)
theorem nodeC_inj {b b' : Nat} {p q p' q' : Value} {k v k' v' : H8} {c c' d d' m m' : Nat} {h h' : H8} (hk : k.length = 32) (hk' : k'.length = 32) (hv : v.length = 32) (hv' : v'.length = 32)
    (e : nodeC b p q k v c d m h = nodeC b' p' q' k' v' c' d' m' h') : b = b' ∧ p = p' ∧ q = q' ∧ k = k' ∧ v = v' := by
  unfold nodeC at e
  simp only [List.cons_append, List.nil_append, List.cons.injEq] at e
  obtain ⟨e1, e2, e3, e4⟩ := e
  have e5 := List.append_inj e4 (by simp [hk, hk'])
  have e6 := List.append_inj e5.2 (by simp [hv, hv'])
  refine ⟨?_, e2, e3, map_u8_inj e5.1, map_u8_inj e6.1⟩
  injection e1 with _ e1
  omega
theorem Blk.uniq {g : Nat} {cs cs' : List Value} (h : Blk w g N cs.toArray) (h' : Blk w g N cs'.toArray) : cs = cs' := by
  have e := h.symm.trans h'
  injection e with e
  injection e with e _
  simpa using e
/-- At a place stands one tree. -/
theorem LAt.uniq : ∀ {t t' : LT}, LAt N w t → LAt N w t' → t.adr = t'.adr → t = t'
  | .leaf g k v, .leaf g' k' v', ⟨a1, a2, d, h, _, hb⟩, ⟨b1, b2, d', h', _, hb'⟩, e => by
    have e : g = g' := e
    subst e
    obtain ⟨_, _, _, rfl, rfl⟩ := nodeC_inj a1 b1 a2 b2 (hb.uniq hb')
    rfl
  | .leaf g k v, .fork g' b x y, ⟨a1, a2, d, h, _, hb⟩, ⟨⟨_, _, b2, d', h', _, hb'⟩, _, _⟩, e => by
    have e : g = g' := e
    subst e
    obtain ⟨_, e2, _, _, _⟩ := nodeC_inj a1 b2 a2 zeroH_len (hb.uniq hb')
    simp at e2
  | .fork g b x y, .leaf g' k v, ⟨⟨_, _, b2, d', h', _, hb'⟩, _, _⟩, ⟨a1, a2, d, h, _, hb⟩, e => by
    have e : g = g' := e
    subst e
    obtain ⟨_, e2, _, _, _⟩ := nodeC_inj b2 a1 zeroH_len a2 (hb'.uniq hb)
    simp at e2
  | .fork g b x y, .fork g' b' x' y', ⟨⟨_, _, a2, d, h, _, hb⟩, hx, hy⟩, ⟨⟨_, _, b2, d', h', _, hb'⟩, hx', hy'⟩, e => by
    have e : g = g' := e
    subst e
    obtain ⟨rfl, e2, e3, _, _⟩ := nodeC_inj a2 b2 zeroH_len zeroH_len (hb.uniq hb')
    have e2 : x.adr = x'.adr := by simpa using e2
    have e3 : y.adr = y'.adr := by simpa using e3
    rw [LAt.uniq hx hx' e2, LAt.uniq hy hy' e3]
/-- A place of a tree is the place of one within it. -/
theorem LAt.sub : ∀ {t : LT}, LAt N w t → ∀ a ∈ t.ads, ∃ s, LAt N w s ∧ s.adr = a ∧ s.size ≤ t.size ∧ ∀ b ∈ s.ads, b ∈ t.ads
  | .leaf g k v, h, a, ha => ⟨.leaf g k v, h, by simp [LT.ads] at ha; exact ha.symm, Nat.le_refl _, fun _ h => h⟩
  | .fork g b x y, h, a, ha => by
    simp only [LT.ads, List.mem_cons, List.mem_append] at ha
    rcases ha with rfl | ha | ha
    · exact ⟨.fork a b x y, h, rfl, Nat.le_refl _, fun _ h => h⟩
    · obtain ⟨s, h1, h2, h3, h4⟩ := LAt.sub h.2.1 a ha
      exact ⟨s, h1, h2, by simp only [LT.size]; omega, fun b hb => by simp [LT.ads, h4 b hb]⟩
    · obtain ⟨s, h1, h2, h3, h4⟩ := LAt.sub h.2.2 a ha
      exact ⟨s, h1, h2, by simp only [LT.size]; omega, fun b hb => by simp [LT.ads, h4 b hb]⟩
theorem LAt.out {g b : Nat} {x y : LT} (h : LAt N w (.fork g b x y)) : g ∉ x.ads ∧ g ∉ y.ads := by
  constructor
  · intro hg
    obtain ⟨s, h1, h2, h3, _⟩ := h.2.1.sub g hg
    have := LAt.uniq h1 h h2
    subst this
    simp only [LT.size] at h3; omega
  · intro hg
    obtain ⟨s, h1, h2, h3, _⟩ := h.2.2.sub g hg
    have := LAt.uniq h1 h h2
    subst this
    simp only [LT.size] at h3; omega
/-- Every tree stays. -/
def Fil (N : TypeId) (w w' : World) : Prop := ∀ t, LAt N w t → LAt N w' t
theorem Fil.no (c : Ch No w w') : Fil N w w' := fun t h => h.no c
theorem Fil.tr {w2 : World} (h : Fil N w w') (h2 : Fil N w' w2) : Fil N w w2 := fun t ht => h2 t (h t ht)
/-- A tree whose places are in F. -/
def LF (N : TypeId) (F : Nat → Prop) (w : World) (t : LT) : Prop := LAt N w t ∧ ∀ a ∈ t.ads, F a
section
variable {F G : Nat → Prop} {t : LT}
theorem LF.at_ (h : LF N F w t) : LAt N w t := h.1
theorem LF.ch (h : LF N F w t) (c : Ch T w w') (hn : ∀ k, k < w.heap.size → F k → ¬ T k) : LF N F w' t := ⟨h.1.ch c (fun a ha => hn a (h.1.lt a ha) (h.2 a ha)), h.2⟩
theorem LF.no (h : LF N F w t) (c : Ch No w w') : LF N F w' t := ⟨h.1.no c, h.2⟩
theorem LF.mono (h : LF N F w t) (hF : ∀ k, k < w.heap.size → F k → G k) : LF N G w t := ⟨h.1, fun a ha => hF a (h.1.lt a ha) (h.2 a ha)⟩
theorem LAt.lf (h : LAt N w t) : LF N (fun k => k < w.heap.size) w t := ⟨h, h.lt⟩
theorem LAt.lfm (h : LAt N w t) : LF N (fun k => k ∈ t.ads) w t := ⟨h, fun _ h => h⟩
theorem LF.fil (h : LF N F w t) (c : Fil N w w') : LF N F w' t := ⟨c t h.1, h.2⟩
end
/-- The record of a tree's top, whatever it is. -/
theorem LAt.top {t : LT} (h : LAt N w t) : ∃ g p q v d hh, g = t.adr ∧ v.length = 32 ∧ hh.length = 32 ∧ t.er.key.length = 32 ∧ t.er.bit ≤ 256 ∧ t.er.cnt ≤ 4611686018427387904 ∧ Blk w g N (nodeC t.er.bit p q t.er.key v t.er.cnt d 0 hh).toArray := by
  have hc := h.cnt_le
  cases t with
  | leaf g k v =>
    obtain ⟨h1, h2, d, hh, h3, h4⟩ := h
    exact ⟨g, _, _, v, d, hh, rfl, h2, h3.1, h1, Nat.le_refl _, hc, h4⟩
  | fork g b x y =>
    obtain ⟨⟨h1, h0, h2, d, hh, h3, h4⟩, _, _⟩ := h
    exact ⟨g, _, _, zeroH, d, hh, rfl, zeroH_len, h3.1, h2, Nat.le_of_lt h1, hc, h4⟩
theorem LAt.of_fork {g b : Nat} {x y : LT} (hb : b < 256) (hc : x.er.cnt + y.er.cnt ≤ 4611686018427387904) (hx : LAt N w x) (hy : LAt N w y) (h : Blk w g N (nodeC b (ndp x.adr) (ndp y.adr) x.er.key zeroH (x.er.cnt + y.er.cnt) 0 0 zeroH).toArray) : LAt N w (.fork g b x y) :=
  ⟨⟨hb, hc, hx.ok |> Tr.key_len, 0, zeroH, ⟨zeroH_len, .inl rfl⟩, h⟩, hx, hy⟩
theorem LAt.of_leaf {g : Nat} {k v : H8} (hk : k.length = 32) (hv : v.length = 32) (h : Blk w g N (nodeC 256 (.pointer none) (.pointer none) k v 1 0 0 zeroH).toArray) : LAt N w (.leaf g k v) := ⟨hk, hv, 0, zeroH, ⟨zeroH_len, .inl rfl⟩, h⟩
/-- A tree's place, or none. -/
def topa : Option LT → Option Addr
  | none => none
  | some t => some ⟨t.adr, 0, none⟩
/-- A made trie behind a pointer: its top, or none. -/
def TR (M N : TypeId) (F : Nat → Prop) (w : World) (v : Value) (o : Option LT) : Prop := ∃ g, v = ndp g ∧ F g ∧ Blk w g M #[.pointer (topa o), .bool true] ∧ ∀ t, o = some t → LF N F w t
section
variable {M : TypeId} {F G : Nat → Prop} {v : Value} {o : Option LT}
theorem TR.ch (h : TR M N F w v o) (c : Ch T w w') (hn : ∀ k, k < w.heap.size → F k → ¬ T k) : TR M N F w' v o := by
  obtain ⟨g, h1, h2, h3, h4⟩ := h
  exact ⟨g, h1, h2, h3.ch c (hn g h3.lt h2), fun t e => (h4 t e).ch c hn⟩
theorem TR.no (h : TR M N F w v o) (c : Ch No w w') : TR M N F w' v o := h.ch c (fun _ _ _ h => h)
theorem TR.mono (h : TR M N F w v o) (hF : ∀ k, k < w.heap.size → F k → G k) : TR M N G w v o := by
  obtain ⟨g, h1, h2, h3, h4⟩ := h
  exact ⟨g, h1, hF g h3.lt h2, h3, fun t e => (h4 t e).mono hF⟩
end
/-- The items of a trie, in order. -/
def itemsO : Option LT → List (H8 × H8)
  | none => []
  | some t => t.er.items
def rootO : Option LT → H8
  | none => noneH
  | some t => t.er.root
def cntO : Option LT → Nat
  | none => 0
  | some t => t.er.cnt
def putO : Option Tr → H8 → H8 → Tr
  | none, k, v => .leaf k v
  | some t, k, v => t.put k v
def findO : Option Tr → H8 → Option H8
  | none, _ => none
  | some t, k => if (t.find k).1 = k then some (t.find k).2 else none
def dropO : Option Tr → H8 → Option Tr
  | none, _ => none
  | some t, k => if (t.find k).1 = k then t.drop k else some t
end
end Go.Gx
