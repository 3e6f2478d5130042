/-
  Own text: plain: proofs of many keys: their nodes in a row, what they lead to, what they say of a key, their bytes.
-/
import Derived.Test.YtkfkdakghjlenaaDoorPlTrieAct
set_option linter.unusedSimpArgs false
set_option linter.unusedVariables false
namespace Go.Plain
open Go.Gx
structure ND where
  kind : Int
  bit : Int
  key : H8
  val : H8
structure TN where
  bit : Int
  side : Int
/-- How a node lies, and a turn. -/
def eND : Enc ND where
  n := 66
  pos := by decide
  f x := [i64 x.kind, i64 x.bit] ++ (List.map u8v x.key ++ List.map u8v x.val)
  ok x := x.key.length = 32 ∧ x.val.length = 32
  len x h := by simp [h.1, h.2]
  one x := oneA (allOne rfl) (oneA (one_map _) (one_map _))
def eTN : Enc TN where
  n := 2
  pos := by decide
  f x := [i64 x.bit, i64 x.side]
  ok _ := True
  len _ _ := rfl
  one _ := allOne rfl
/-- Has a key the bits that the forks above say? -/
def withinB (k : H8) (ab : List TN) : Bool := ab.all fun t => decide ((bitI k t.bit : Int) = t.side)
def Rises (b : Int) (ab : List TN) : Prop := 0 ≤ b ∧ b ≤ 255 ∧ (ab.length = 0 ∨ (ab.getD (ab.length - 1) ⟨0, 0⟩).bit < b)
def risesB (b : Int) (ab : List TN) : Bool := decide (0 ≤ b) && (decide (b ≤ 255) && (decide ((ab.length : Int) = 0) || decide ((ab.getD (ab.length - 1) ⟨0, 0⟩).bit < b)))
inductive PT where
  | cut (h : H8)
  | item (k v : H8)
  | fork (b : Int) (x y : PT)
namespace PT
def nodes : PT → List ND
  | cut h => [⟨2, 0, zeroH, h⟩]
  | item k v => [⟨3, 0, k, v⟩]
  | fork b x y => ⟨4, b, zeroH, zeroH⟩ :: (x.nodes ++ y.nodes)
def root : PT → H8
  | cut h => h
  | item k v => itemH k v
  | fork b x y => forkH (b8i b) x.root y.root
def Ok : PT → List TN → Prop
  | cut h, _ => h.length = 32
  | item k v, ab => k.length = 32 ∧ v.length = 32 ∧ withinB k ab = true
  | fork b x y, ab => Rises b ab ∧ x.Ok (ab ++ [⟨b, 0⟩]) ∧ y.Ok (ab ++ [⟨b, 1⟩])
def say (k : H8) : PT → H8 × Bool × Bool
  | cut _ => (zeroH, false, false)
  | item a v => if a = k then (v, true, true) else (zeroH, false, true)
  | fork b x y => if bitI k b = 1 then y.say k else x.say k
theorem root_len : ∀ {p : PT} {ab : List TN}, p.Ok ab → p.root.length = 32
  | cut _, _, h => h
  | item _ _, _, _ => itemH_len _ _
  | fork _ _ _, _, _ => forkH_len _ _ _
theorem nodes_pos : ∀ p : PT, 0 < p.nodes.length
  | cut _ => Nat.one_pos
  | item _ _ => Nat.one_pos
  | fork _ _ _ => Nat.succ_pos _
theorem nodes_inj : ∀ {p q : PT} {r s : List ND}, p.nodes ++ r = q.nodes ++ s → p = q ∧ r = s
  | cut h, cut h', r, s, e => by
    simp only [nodes, List.cons_append, List.nil_append, List.cons.injEq, ND.mk.injEq] at e
    exact ⟨by rw [e.1.2.2.2], e.2⟩
  | item k v, item k' v', r, s, e => by
    simp only [nodes, List.cons_append, List.nil_append, List.cons.injEq, ND.mk.injEq] at e
    exact ⟨by rw [e.1.2.2.1, e.1.2.2.2], e.2⟩
  | fork b x y, fork b' x' y', r, s, e => by
    simp only [nodes, List.cons_append, List.append_assoc, List.cons.injEq, ND.mk.injEq] at e
    obtain ⟨⟨_, e1, _⟩, e2⟩ := e
    obtain ⟨rfl, e3⟩ := nodes_inj e2
    obtain ⟨rfl, e4⟩ := nodes_inj e3
    exact ⟨by rw [e1], e4⟩
  | cut h, item k v, r, s, e => by simp [nodes] at e
  | cut h, fork b x y, r, s, e => by simp [nodes] at e
  | item k v, cut h, r, s, e => by simp [nodes] at e
  | item k v, fork b x y, r, s, e => by simp [nodes] at e
  | fork b x y, cut h, r, s, e => by simp [nodes] at e
  | fork b x y, item k v, r, s, e => by simp [nodes] at e
theorem nodes_kind : ∀ {p : PT}, ∃ x r, p.nodes = x :: r ∧ (x.kind = 2 ∨ x.kind = 3 ∨ x.kind = 4)
  | cut _ => ⟨_, _, rfl, .inl rfl⟩
  | item _ _ => ⟨_, _, rfl, .inr (.inl rfl)⟩
  | fork _ _ _ => ⟨_, _, rfl, .inr (.inr rfl)⟩
end PT
/-! ### What nodes lead to -/
/-- A list begins with the nodes of a proof of root h; r is behind. -/
def Pst (ab : List TN) (l : List ND) (h : H8) (r : List ND) : Prop := ∃ p : PT, p.Ok ab ∧ l = p.nodes ++ r ∧ h = p.root
structure PR (ab : List TN) (l : List ND) (bd : Bool) (h : H8) (r : List ND) (bd' : Bool) : Prop where
  yes : bd' = false → bd = false ∧ Pst ab l h r
  no : bd' = true → bd = true ∨ ¬ ∃ h r, Pst ab l h r
  len : h.length = 32
  suf : ∃ p, l = p ++ r
abbrev ND0 : ND := ⟨1, 0, zeroH, zeroH⟩
section
variable {ab : List TN} {l r r1 r2 : List ND} {bd b1 b2 : Bool} {h a c : H8} {x : ND}
theorem Pst.head (hp : Pst ab (x :: r) h r1) : x.kind = 2 ∨ x.kind = 3 ∨ x.kind = 4 := by
  obtain ⟨p, _, e, _⟩ := hp
  obtain ⟨y, q, e2, hk⟩ := PT.nodes_kind (p := p)
  rw [e2, List.cons_append] at e
  injection e with e3 _
  rw [e3]; exact hk
theorem PR.nil : PR ab [] bd zeroH [] true := ⟨fun h => by simp at h, fun _ => .inr (fun ⟨h, r, p, _, e, _⟩ => by
  have := PT.nodes_pos p
  have e2 := congrArg List.length e
  rw [List.length_nil, List.length_append] at e2; omega), zeroH_len, ⟨[], rfl⟩⟩
theorem PR.other (hk : ¬ (x.kind = 2 ∨ x.kind = 3 ∨ x.kind = 4)) : PR ab (x :: r) bd zeroH r true := ⟨fun h => by simp at h, fun _ => .inr (fun ⟨h, r, hp⟩ => hk hp.head), zeroH_len, ⟨[x], rfl⟩⟩
/-- What a test of a node says, field by field. -/
theorem nd_ext {y : ND} : x = y ↔ x.kind = y.kind ∧ x.bit = y.bit ∧ x.key = y.key ∧ x.val = y.val := by
  cases x; cases y; simp
theorem PR.cut {q : Bool} (hk : x.kind = 2) (hx : x.val.length = 32) (hq : q = true ↔ x.bit = 0 ∧ x.key = zeroH) : PR ab (x :: r) false x.val r (!q) := by
  refine ⟨fun h => ⟨rfl, .cut x.val, hx, ?_, rfl⟩, fun h => .inr ?_, hx, ⟨[x], rfl⟩⟩
  · obtain ⟨h1, h2⟩ := hq.1 (by simpa using h)
    exact congrArg (· :: r) (nd_ext.2 ⟨hk, h1, h2, rfl⟩)
  · rintro ⟨h', r', p, _, e, _⟩
    have hq' : ¬ q = true := by simpa using h
    refine hq' (hq.2 ?_)
    cases p with
    | cut v => simp [PT.nodes] at e; rw [e.1]; exact ⟨rfl, rfl⟩
    | item k v => simp [PT.nodes] at e; rw [e.1] at hk; simp at hk
    | fork b y z => simp [PT.nodes] at e; rw [e.1] at hk; simp at hk
theorem PR.item {q : Bool} (hk : x.kind = 3) (h1 : x.key.length = 32) (h2 : x.val.length = 32) (hq : q = true ↔ x.bit = 0 ∧ withinB x.key ab = true) : PR ab (x :: r) false (itemH x.key x.val) r (!q) := by
  refine ⟨fun h => ⟨rfl, .item x.key x.val, ⟨h1, h2, (hq.1 (by simpa using h)).2⟩, ?_, rfl⟩, fun h => .inr ?_, itemH_len _ _, ⟨[x], rfl⟩⟩
  · obtain ⟨h3, _⟩ := hq.1 (by simpa using h)
    exact congrArg (· :: r) (nd_ext.2 ⟨hk, h3, rfl, rfl⟩)
  · rintro ⟨h', r', p, ho, e, _⟩
    have hq' : ¬ q = true := by simpa using h
    refine hq' (hq.2 ?_)
    cases p with
    | item k v => simp [PT.nodes] at e; rw [e.1]; exact ⟨rfl, ho.2.2⟩
    | cut v => simp [PT.nodes] at e; rw [e.1] at hk; simp at hk
    | fork b y z => simp [PT.nodes] at e; rw [e.1] at hk; simp at hk
theorem PR.fork (hk : x.kind = 4) (h1 : x.key = zeroH) (h2 : x.val = zeroH) (hr : Rises x.bit ab) (ha : PR (ab ++ [⟨x.bit, 0⟩]) r false a r1 b1) (hc : PR (ab ++ [⟨x.bit, 1⟩]) r1 b1 c r2 b2) : PR ab (x :: r) false (forkH (b8i x.bit) a c) r2 b2 := by
  refine ⟨fun h => ⟨rfl, ?_⟩, fun h => .inr ?_, forkH_len _ _ _, ?_⟩
  · obtain ⟨e1, q, oq, eq, rq⟩ := hc.yes h
    obtain ⟨_, p, op, ep, rp⟩ := ha.yes e1
    refine ⟨.fork x.bit p q, ⟨hr, op, oq⟩, ?_, by rw [rp, rq]; rfl⟩
    have hx : x = ⟨4, x.bit, zeroH, zeroH⟩ := nd_ext.2 ⟨hk, rfl, h1, h2⟩
    rw [ep, eq]
    exact (congrArg (· :: (p.nodes ++ (q.nodes ++ r2))) hx).trans (by simp [PT.nodes])
  · rintro ⟨h', r', p, ho, e, _⟩
    cases p with
    | item k v => simp [PT.nodes] at e; rw [e.1] at hk; simp at hk
    | cut v => simp [PT.nodes] at e; rw [e.1] at hk; simp at hk
    | fork b y z =>
      simp only [PT.nodes, List.cons_append, List.append_assoc, List.cons.injEq] at e
      obtain ⟨e1, e2⟩ := e
      subst e1
      obtain ⟨_, oy, oz⟩ := ho
      cases hb : b1 with
      | true => exact (ha.no hb).elim (fun h => by simp at h) (fun h => h ⟨_, _, y, oy, e2, rfl⟩)
      | false =>
        obtain ⟨_, p, op, ep, rp⟩ := ha.yes hb
        obtain ⟨_, e4⟩ := PT.nodes_inj (ep.symm.trans e2)
        exact (hc.no h).elim (fun h => by rw [hb] at h; simp at h) (fun h => h ⟨_, _, z, oz, e4, rfl⟩)
  · obtain ⟨p, ep⟩ := ha.suf
    obtain ⟨q, eq⟩ := hc.suf
    exact ⟨x :: (p ++ q), by rw [ep, eq]; simp⟩
end
/-- A proof, and its root. -/
def GoodN (l : List ND) (h : H8) : Prop := (l = [ND0] ∧ h = noneH) ∨ Pst [] l h []
section
variable {l r : List ND} {h a b k u v w top : H8}
theorem nothing_no {p : PT} : [ND0] ≠ p.nodes := fun e => by
  obtain ⟨x, r, e2, hk⟩ := PT.nodes_kind (p := p)
  rw [e2] at e
  injection e with e _
  rw [← e] at hk
  simp [ND0] at hk
theorem GoodN.uniq (h1 : GoodN l a) (h2 : GoodN l b) : a = b := by
  rcases h1 with ⟨e1, rfl⟩ | ⟨p, _, e1, rfl⟩
  · rcases h2 with ⟨_, rfl⟩ | ⟨q, _, e2, _⟩
    · rfl
    · rw [List.append_nil] at e2; exact (nothing_no (e1.symm.trans e2)).elim
  · rcases h2 with ⟨e2, rfl⟩ | ⟨q, _, e2, rfl⟩
    · rw [List.append_nil] at e1; exact (nothing_no (e2.symm.trans e1)).elim
    · rw [(PT.nodes_inj (e1.symm.trans e2)).1]
theorem GoodN.len (h1 : GoodN l a) : a.length = 32 := by
  rcases h1 with ⟨_, rfl⟩ | ⟨p, hp, _, rfl⟩
  · exact noneH_len
  · exact PT.root_len hp
open Classical in
noncomputable def rootN (l : List ND) : H8 × Bool := if h : ∃ h, GoodN l h then (h.choose, true) else (zeroH, false)
/-! ### What a proof says -/
open Classical in
noncomputable def sayN (l : List ND) (k : H8) : H8 × Bool × Bool := if h : ∃ p : PT, p.Ok [] ∧ l = p.nodes then h.choose.say k else (zeroH, false, true)
noncomputable def checkN (top : H8) (l : List ND) (k : H8) : H8 × Bool × Bool := if (rootN l).2 = false ∨ (rootN l).1 ≠ top then (zeroH, false, false) else sayN l k
noncomputable def keysN (l : List ND) : List H8 := if (rootN l).2 = true then (l.filter fun x => decide (x.kind = 3)).map ND.key else []
/-! ### Bytes -/
def bytN (x : ND) : List UInt8 := b8i x.kind :: (if x.kind = 2 then x.val else if x.kind = 3 then x.key ++ x.val else if x.kind = 4 then [b8i x.bit] else [])
noncomputable def bytesN (l : List ND) : List UInt8 := if (rootN l).2 = true then l.flatMap bytN else []
/-- A node as it is read. -/
def CanN (x : ND) : Prop := (0 ≤ x.kind ∧ x.kind ≤ 255) ∧ x.key.length = 32 ∧ x.val.length = 32 ∧ (x.kind = 4 → 0 ≤ x.bit ∧ x.bit ≤ 255) ∧ (x.kind ≠ 4 → x.bit = 0) ∧ (x.kind ≠ 3 → x.key = zeroH) ∧ (x.kind ≠ 2 → x.kind ≠ 3 → x.val = zeroH)
def ReadOK (x : List UInt8) (l : List ND) : Prop := (∀ y ∈ l, CanN y) ∧ (rootN l).2 = true ∧ l.flatMap bytN = x
end
/-! ### What shows what a map has -/
namespace Tr
def prv : Tr → List H8 → PT
  | leaf k v, ks => if ks = [] then .cut (itemH k v) else .item k v
  | fork b x y, ks => if ks = [] then .cut (root (fork b x y)) else .fork (b : Int) (x.prv (ks.filter fun k => decide (bitN k b = 0))) (y.prv (ks.filter fun k => decide (bitN k b = 1)))
theorem split_len : ∀ (ks : List H8) (b : Nat), (ks.filter fun k => decide (bitN k b = 0)).length + (ks.filter fun k => decide (bitN k b = 1)).length = ks.length
  | [], _ => rfl
  | k :: ks, b => by
    have := split_len ks b
    have hb := bitN_lt k b
    rw [List.filter_cons, List.filter_cons]
    rcases (by omega : bitN k b = 0 ∨ bitN k b = 1) with h | h
    · simp [h]; omega
    · simp [h]; omega
theorem prv_nodes : ∀ {t : Tr} {ks : List H8}, (t.prv ks).nodes.length + 1 ≤ 2 * t.cnt
  | leaf a v, ks => by
    rw [prv]; split <;> simp [PT.nodes, cnt]
  | fork b x y, ks => by
    have cx := cnt_pos x
    have cy := cnt_pos y
    rw [prv]; split
    · simp only [PT.nodes, cnt, List.length_cons, List.length_nil]; omega
    · have h1 := prv_nodes (t := x) (ks := ks.filter fun k => decide (bitN k b = 0))
      have h2 := prv_nodes (t := y) (ks := ks.filter fun k => decide (bitN k b = 1))
      simp only [PT.nodes, cnt, List.length_cons, List.length_append]
      omega
end Tr
def prvN : Option Tr → List H8 → List ND
  | none, _ => [ND0]
  | some t, ks => (t.prv ks).nodes
section
variable {o : Option Tr} {ks : List H8} {k : H8}
theorem prvN_len : (prvN o ks).length ≤ 2 * cntT o + 1 := by
  cases o with
  | none => simp [prvN]
  | some t => have := Tr.prv_nodes (t := t) (ks := ks); show (t.prv ks).nodes.length ≤ 2 * t.cnt + 1; omega
end
/-! ### A way through nodes -/
def nodesO : Option PT → List ND
  | none => [ND0]
  | some p => p.nodes
def sayO (k : H8) : Option PT → H8 × Bool × Bool
  | none => (zeroH, false, true)
  | some p => p.say k
section
variable {l r s t : List ND} {x : ND} {k h : H8} {q : Option PT} {p : PT}
end
end Go.Plain
