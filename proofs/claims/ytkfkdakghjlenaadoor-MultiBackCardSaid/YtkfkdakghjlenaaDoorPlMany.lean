/-
  Own text: plain: proofs of many keys: their nodes in a row, what they lead to, what they say of a key, their bytes.
-/
import Derived.Test.YtkfkdakghjlenaaDoorPlTrieAct
set_option linter.unusedSimpArgs false
set_option linter.unusedVariables false
namespace Go.Plain
open Go.Gx
structure ND where
  kind : Int
  bit : Int
  key : H8
  val : H8
structure TN where
  bit : Int
  side : Int
/-- How a node lies, and a turn. -/
def eND : Enc ND where
  n := 66
  pos := by decide
  f x := [i64 x.kind, i64 x.bit] ++ (List.map u8v x.key ++ List.map u8v x.val)
  ok x := x.key.length = 32 ∧ x.val.length = 32
  len x h := by simp [h.1, h.2]
  one x := oneA (allOne rfl) (oneA (one_map _) (one_map _))
def eTN : Enc TN where
  n := 2
  pos := by decide
  f x := [i64 x.bit, i64 x.side]
  ok _ := True
  len _ _ := rfl
  one _ := allOne rfl
/-- Has a key the bits that the forks above say? -/
def withinB (k : H8) (ab : List TN) : Bool := ab.all fun t => decide ((bitI k t.bit : Int) = t.side)
def Rises (b : Int) (ab : List TN) : Prop := 0 ≤ b ∧ b ≤ 255 ∧ (ab.length = 0 ∨ (ab.getD (ab.length - 1) ⟨0, 0⟩).bit < b)
def risesB (b : Int) (ab : List TN) : Bool := decide (0 ≤ b) && (decide (b ≤ 255) && (decide ((ab.length : Int) = 0) || decide ((ab.getD (ab.length - 1) ⟨0, 0⟩).bit < b)))
theorem risesB_iff {b : Int} {ab : List TN} : risesB b ab = true ↔ Rises b ab := by
  unfold risesB Rises
  simp only [Bool.and_eq_true, Bool.or_eq_true, decide_eq_true_eq]
  constructor
  · rintro ⟨h1, h2, h3 | h3⟩
    · exact ⟨h1, h2, .inl (by omega)⟩
    · exact ⟨h1, h2, .inr h3⟩
  · rintro ⟨h1, h2, h3 | h3⟩
    · exact ⟨h1, h2, .inl (by omega)⟩
    · exact ⟨h1, h2, .inr h3⟩
inductive PT where
  | cut (h : H8)
  | item (k v : H8)
  | fork (b : Int) (x y : PT)
namespace PT
def nodes : PT → List ND
  | cut h => [⟨2, 0, zeroH, h⟩]
  | item k v => [⟨3, 0, k, v⟩]
  | fork b x y => ⟨4, b, zeroH, zeroH⟩ :: (x.nodes ++ y.nodes)
def root : PT → H8
  | cut h => h
  | item k v => itemH k v
  | fork b x y => forkH (b8i b) x.root y.root
def Ok : PT → List TN → Prop
  | cut h, _ => h.length = 32
  | item k v, ab => k.length = 32 ∧ v.length = 32 ∧ withinB k ab = true
  | fork b x y, ab => Rises b ab ∧ x.Ok (ab ++ [⟨b, 0⟩]) ∧ y.Ok (ab ++ [⟨b, 1⟩])
def say (k : H8) : PT → H8 × Bool × Bool
  | cut _ => (zeroH, false, false)
  | item a v => if a = k then (v, true, true) else (zeroH, false, true)
  | fork b x y => if bitI k b = 1 then y.say k else x.say k
theorem root_len : ∀ {p : PT} {ab : List TN}, p.Ok ab → p.root.length = 32
  | cut _, _, h => h
  | item _ _, _, _ => itemH_len _ _
  | fork _ _ _, _, _ => forkH_len _ _ _
theorem nodes_pos : ∀ p : PT, 0 < p.nodes.length
  | cut _ => Nat.one_pos
  | item _ _ => Nat.one_pos
  | fork _ _ _ => Nat.succ_pos _
theorem nodes_inj : ∀ {p q : PT} {r s : List ND}, p.nodes ++ r = q.nodes ++ s → p = q ∧ r = s
  | cut h, cut h', r, s, e => by
    simp only [nodes, List.cons_append, List.nil_append, List.cons.injEq, ND.mk.injEq] at e
    exact ⟨by rw [e.1.2.2.2], e.2⟩
  | item k v, item k' v', r, s, e => by
    simp only [nodes, List.cons_append, List.nil_append, List.cons.injEq, ND.mk.injEq] at e
    exact ⟨by rw [e.1.2.2.1, e.1.2.2.2], e.2⟩
  | fork b x y, fork b' x' y', r, s, e => by
    simp only [nodes, List.cons_append, List.append_assoc, List.cons.injEq, ND.mk.injEq] at e
    obtain ⟨⟨_, e1, _⟩, e2⟩ := e
    obtain ⟨rfl, e3⟩ := nodes_inj e2
    obtain ⟨rfl, e4⟩ := nodes_inj e3
    exact ⟨by rw [e1], e4⟩
  | cut h, item k v, r, s, e => by simp [nodes] at e
  | cut h, fork b x y, r, s, e => by simp [nodes] at e
  | item k v, cut h, r, s, e => by simp [nodes] at e
  | item k v, fork b x y, r, s, e => by simp [nodes] at e
  | fork b x y, cut h, r, s, e => by simp [nodes] at e
  | fork b x y, item k v, r, s, e => by simp [nodes] at e
theorem nodes_kind : ∀ {p : PT}, ∃ x r, p.nodes = x :: r ∧ (x.kind = 2 ∨ x.kind = 3 ∨ x.kind = 4)
  | cut _ => ⟨_, _, rfl, .inl rfl⟩
  | item _ _ => ⟨_, _, rfl, .inr (.inl rfl)⟩
  | fork _ _ _ => ⟨_, _, rfl, .inr (.inr rfl)⟩
end PT
/-! ### What nodes lead to -/
/-- A list begins with the nodes of a proof of root h; r is behind. -/
def Pst (ab : List TN) (l : List ND) (h : H8) (r : List ND) : Prop := ∃ p : PT, p.Ok ab ∧ l = p.nodes ++ r ∧ h = p.root
structure PR (ab : List TN) (l : List ND) (bd : Bool) (h : H8) (r : List ND) (bd' : Bool) : Prop where
  yes : bd' = false → bd = false ∧ Pst ab l h r
  no : bd' = true → bd = true ∨ ¬ ∃ h r, Pst ab l h r
  len : h.length = 32
  suf : ∃ p, l = p ++ r
abbrev ND0 : ND := ⟨1, 0, zeroH, zeroH⟩
section
variable {ab : List TN} {l r r1 r2 : List ND} {bd b1 b2 : Bool} {h a c : H8} {x : ND}
theorem PR.bad : PR ab l true zeroH l true := ⟨fun h => by simp at h, fun _ => .inl rfl, zeroH_len, ⟨[], rfl⟩⟩
theorem Pst.head (hp : Pst ab (x :: r) h r1) : x.kind = 2 ∨ x.kind = 3 ∨ x.kind = 4 := by
  obtain ⟨p, _, e, _⟩ := hp
  obtain ⟨y, q, e2, hk⟩ := PT.nodes_kind (p := p)
  rw [e2, List.cons_append] at e
  injection e with e3 _
  rw [e3]; exact hk
theorem PR.nil : PR ab [] bd zeroH [] true := ⟨fun h => by simp at h, fun _ => .inr (fun ⟨h, r, p, _, e, _⟩ => by
  have := PT.nodes_pos p
  have e2 := congrArg List.length e
  rw [List.length_nil, List.length_append] at e2; omega), zeroH_len, ⟨[], rfl⟩⟩
theorem PR.other (hk : ¬ (x.kind = 2 ∨ x.kind = 3 ∨ x.kind = 4)) : PR ab (x :: r) bd zeroH r true := ⟨fun h => by simp at h, fun _ => .inr (fun ⟨h, r, hp⟩ => hk hp.head), zeroH_len, ⟨[x], rfl⟩⟩
/-- What a test of a node says, field by field. -/
theorem nd_ext {y : ND} : x = y ↔ x.kind = y.kind ∧ x.bit = y.bit ∧ x.key = y.key ∧ x.val = y.val := by
  cases x; cases y; simp
theorem PR.cut {q : Bool} (hk : x.kind = 2) (hx : x.val.length = 32) (hq : q = true ↔ x.bit = 0 ∧ x.key = zeroH) : PR ab (x :: r) false x.val r (!q) := by
  refine ⟨fun h => ⟨rfl, .cut x.val, hx, ?_, rfl⟩, fun h => .inr ?_, hx, ⟨[x], rfl⟩⟩
  · obtain ⟨h1, h2⟩ := hq.1 (by simpa using h)
    exact congrArg (· :: r) (nd_ext.2 ⟨hk, h1, h2, rfl⟩)
  · rintro ⟨h', r', p, _, e, _⟩
    have hq' : ¬ q = true := by simpa using h
    refine hq' (hq.2 ?_)
    cases p with
    | cut v => simp [PT.nodes] at e; rw [e.1]; exact ⟨rfl, rfl⟩
    | item k v => simp [PT.nodes] at e; rw [e.1] at hk; simp at hk
    | fork b y z => simp [PT.nodes] at e; rw [e.1] at hk; simp at hk
theorem PR.item {q : Bool} (hk : x.kind = 3) (h1 : x.key.length = 32) (h2 : x.val.length = 32) (hq : q = true ↔ x.bit = 0 ∧ withinB x.key ab = true) : PR ab (x :: r) false (itemH x.key x.val) r (!q) := by
  refine ⟨fun h => ⟨rfl, .item x.key x.val, ⟨h1, h2, (hq.1 (by simpa using h)).2⟩, ?_, rfl⟩, fun h => .inr ?_, itemH_len _ _, ⟨[x], rfl⟩⟩
  · obtain ⟨h3, _⟩ := hq.1 (by simpa using h)
    exact congrArg (· :: r) (nd_ext.2 ⟨hk, h3, rfl, rfl⟩)
  · rintro ⟨h', r', p, ho, e, _⟩
    have hq' : ¬ q = true := by simpa using h
    refine hq' (hq.2 ?_)
    cases p with
    | item k v => simp [PT.nodes] at e; rw [e.1]; exact ⟨rfl, ho.2.2⟩
    | cut v => simp [PT.nodes] at e; rw [e.1] at hk; simp at hk
    | fork b y z => simp [PT.nodes] at e; rw [e.1] at hk; simp at hk
theorem PR.fork_no (hk : x.kind = 4) (hn : ¬ (x.key = zeroH ∧ x.val = zeroH ∧ Rises x.bit ab)) : PR ab (x :: r) bd zeroH r true := by
  refine ⟨fun h => by simp at h, fun _ => .inr ?_, zeroH_len, ⟨[x], rfl⟩⟩
  rintro ⟨h', r', p, ho, e, _⟩
  cases p with
  | item k v => simp [PT.nodes] at e; rw [e.1] at hk; simp at hk
  | cut v => simp [PT.nodes] at e; rw [e.1] at hk; simp at hk
  | fork b y z => simp [PT.nodes] at e; rw [e.1] at hn; exact hn ⟨rfl, rfl, ho.1⟩
theorem PR.fork (hk : x.kind = 4) (h1 : x.key = zeroH) (h2 : x.val = zeroH) (hr : Rises x.bit ab) (ha : PR (ab ++ [⟨x.bit, 0⟩]) r false a r1 b1) (hc : PR (ab ++ [⟨x.bit, 1⟩]) r1 b1 c r2 b2) : PR ab (x :: r) false (forkH (b8i x.bit) a c) r2 b2 := by
  refine ⟨fun h => ⟨rfl, ?_⟩, fun h => .inr ?_, forkH_len _ _ _, ?_⟩
  · obtain ⟨e1, q, oq, eq, rq⟩ := hc.yes h
    obtain ⟨_, p, op, ep, rp⟩ := ha.yes e1
    refine ⟨.fork x.bit p q, ⟨hr, op, oq⟩, ?_, by rw [rp, rq]; rfl⟩
    have hx : x = ⟨4, x.bit, zeroH, zeroH⟩ := nd_ext.2 ⟨hk, rfl, h1, h2⟩
    rw [ep, eq]
    exact (congrArg (· :: (p.nodes ++ (q.nodes ++ r2))) hx).trans (by simp [PT.nodes])
  · rintro ⟨h', r', p, ho, e, _⟩
    cases p with
    | item k v => simp [PT.nodes] at e; rw [e.1] at hk; simp at hk
    | cut v => simp [PT.nodes] at e; rw [e.1] at hk; simp at hk
    | fork b y z =>
      simp only [PT.nodes, List.cons_append, List.append_assoc, List.cons.injEq] at e
      obtain ⟨e1, e2⟩ := e
      subst e1
      obtain ⟨_, oy, oz⟩ := ho
      cases hb : b1 with
      | true => exact (ha.no hb).elim (fun h => by simp at h) (fun h => h ⟨_, _, y, oy, e2, rfl⟩)
      | false =>
        obtain ⟨_, p, op, ep, rp⟩ := ha.yes hb
        obtain ⟨_, e4⟩ := PT.nodes_inj (ep.symm.trans e2)
        exact (hc.no h).elim (fun h => by rw [hb] at h; simp at h) (fun h => h ⟨_, _, z, oz, e4, rfl⟩)
  · obtain ⟨p, ep⟩ := ha.suf
    obtain ⟨q, eq⟩ := hc.suf
    exact ⟨x :: (p ++ q), by rw [ep, eq]; simp⟩
theorem PR.suf_len (h : PR ab l bd c r b1) : r.length ≤ l.length := by
  obtain ⟨p, e⟩ := h.suf
  rw [e, List.length_append]; omega
end
/-- A proof, and its root. -/
def GoodN (l : List ND) (h : H8) : Prop := (l = [ND0] ∧ h = noneH) ∨ Pst [] l h []
section
variable {l r : List ND} {h a b k u v w top : H8}
theorem nothing_no {p : PT} : [ND0] ≠ p.nodes := fun e => by
  obtain ⟨x, r, e2, hk⟩ := PT.nodes_kind (p := p)
  rw [e2] at e
  injection e with e _
  rw [← e] at hk
  simp [ND0] at hk
theorem GoodN.uniq (h1 : GoodN l a) (h2 : GoodN l b) : a = b := by
  rcases h1 with ⟨e1, rfl⟩ | ⟨p, _, e1, rfl⟩
  · rcases h2 with ⟨_, rfl⟩ | ⟨q, _, e2, _⟩
    · rfl
    · rw [List.append_nil] at e2; exact (nothing_no (e1.symm.trans e2)).elim
  · rcases h2 with ⟨e2, rfl⟩ | ⟨q, _, e2, rfl⟩
    · rw [List.append_nil] at e1; exact (nothing_no (e2.symm.trans e1)).elim
    · rw [(PT.nodes_inj (e1.symm.trans e2)).1]
theorem GoodN.len (h1 : GoodN l a) : a.length = 32 := by
  rcases h1 with ⟨_, rfl⟩ | ⟨p, hp, _, rfl⟩
  · exact noneH_len
  · exact PT.root_len hp
open Classical in
noncomputable def rootN (l : List ND) : H8 × Bool := if h : ∃ h, GoodN l h then (h.choose, true) else (zeroH, false)
theorem rootN_of (h1 : GoodN l a) : rootN l = (a, true) := by
  have he : ∃ h, GoodN l h := ⟨a, h1⟩
  unfold rootN
  rw [dif_pos he, GoodN.uniq he.choose_spec h1]
theorem rootN_no (h1 : ¬ ∃ h, GoodN l h) : rootN l = (zeroH, false) := by
  unfold rootN
  rw [dif_neg h1]
theorem rootN_yes (h1 : (rootN l).2 = true) : GoodN l (rootN l).1 := by
  by_cases he : ∃ h, GoodN l h
  · obtain ⟨a, ha⟩ := he; rw [rootN_of ha]; exact ha
  · rw [rootN_no he] at h1; simp at h1
theorem rootN_len : (rootN l).1.length = 32 := by
  by_cases he : ∃ h, GoodN l h
  · obtain ⟨a, ha⟩ := he; rw [rootN_of ha]; exact ha.len
  · rw [rootN_no he]; exact zeroH_len
/-- The whole list read, and nothing behind. -/
theorem root_part {bd : Bool} (h1 : PR [] l false h r bd) (hn : l ≠ [ND0]) : rootN l = if bd = true ∨ 0 < r.length then (zeroH, false) else (h, true) := by
  split
  · rename_i hc
    refine rootN_no ?_
    rintro ⟨a, ⟨e, _⟩ | hp⟩
    · exact hn e
    · cases hb : bd with
      | true => exact (h1.no hb).elim (fun h => by simp at h) (fun h => h ⟨_, _, hp⟩)
      | false =>
        obtain ⟨_, p, _, e1, _⟩ := h1.yes hb
        obtain ⟨q, _, e2, _⟩ := hp
        have := (PT.nodes_inj (e1.symm.trans e2)).2
        rw [hb, this] at hc
        simp at hc
  · rename_i hc
    have hb : bd = false := by cases bd <;> simp_all
    have hr : r = [] := by
      cases r with
      | nil => rfl
      | cons x r => simp at hc
    subst hr
    exact rootN_of (.inr (h1.yes hb).2)
theorem root_nothing : rootN [ND0] = (noneH, true) := rootN_of (.inl ⟨rfl, rfl⟩)
theorem root_none (h : l = []) : rootN l = (zeroH, false) := by
  subst h
  refine rootN_no ?_
  rintro ⟨a, ⟨e, _⟩ | ⟨p, _, e, _⟩⟩
  · simp at e
  · have := PT.nodes_pos p
    have e2 := congrArg List.length e
    rw [List.length_nil, List.length_append] at e2; omega
/-! ### What a proof says -/
open Classical in
noncomputable def sayN (l : List ND) (k : H8) : H8 × Bool × Bool := if h : ∃ p : PT, p.Ok [] ∧ l = p.nodes then h.choose.say k else (zeroH, false, true)
noncomputable def checkN (top : H8) (l : List ND) (k : H8) : H8 × Bool × Bool := if (rootN l).2 = false ∨ (rootN l).1 ≠ top then (zeroH, false, false) else sayN l k
noncomputable def keysN (l : List ND) : List H8 := if (rootN l).2 = true then (l.filter fun x => decide (x.kind = 3)).map ND.key else []
/-! ### Bytes -/
def bytN (x : ND) : List UInt8 := b8i x.kind :: (if x.kind = 2 then x.val else if x.kind = 3 then x.key ++ x.val else if x.kind = 4 then [b8i x.bit] else [])
noncomputable def bytesN (l : List ND) : List UInt8 := if (rootN l).2 = true then l.flatMap bytN else []
/-- A node as it is read. -/
def CanN (x : ND) : Prop := (0 ≤ x.kind ∧ x.kind ≤ 255) ∧ x.key.length = 32 ∧ x.val.length = 32 ∧ (x.kind = 4 → 0 ≤ x.bit ∧ x.bit ≤ 255) ∧ (x.kind ≠ 4 → x.bit = 0) ∧ (x.kind ≠ 3 → x.key = zeroH) ∧ (x.kind ≠ 2 → x.kind ≠ 3 → x.val = zeroH)
theorem b8i_inj {a b : Int} (ha : 0 ≤ a ∧ a ≤ 255) (hb : 0 ≤ b ∧ b ≤ 255) (e : b8i a = b8i b) : a = b := by
  have h1 : ((b8i a).toNat : Int) = a := by unfold b8i; simp; omega
  have h2 : ((b8i b).toNat : Int) = b := by unfold b8i; simp; omega
  rw [← h1, e, h2]
theorem enc_inj {x y : ND} {p q : List UInt8} (hx : CanN x) (hy : CanN y) (e : bytN x ++ p = bytN y ++ q) : x = y ∧ p = q := by
  obtain ⟨x1, x2, x3, x4, x5, x6, x7⟩ := hx
  obtain ⟨y1, y2, y3, y4, y5, y6, y7⟩ := hy
  simp only [bytN, List.cons_append, List.cons.injEq] at e
  obtain ⟨e1, e2⟩ := e
  have hk := b8i_inj x1 y1 e1
  rw [← hk] at e2 y4 y5 y6 y7
  by_cases k2 : x.kind = 2
  · rw [if_pos k2, if_pos k2] at e2
    obtain ⟨e3, e4⟩ := List.append_inj e2 (by omega)
    exact ⟨nd_ext.2 ⟨hk, by rw [x5 (by omega), y5 (by omega)], by rw [x6 (by omega), y6 (by omega)], e3⟩, e4⟩
  · rw [if_neg k2, if_neg k2] at e2
    by_cases k3 : x.kind = 3
    · rw [if_pos k3, if_pos k3, List.append_assoc, List.append_assoc] at e2
      obtain ⟨e3, e4⟩ := List.append_inj e2 (by omega)
      obtain ⟨e5, e6⟩ := List.append_inj e4 (by omega)
      exact ⟨nd_ext.2 ⟨hk, by rw [x5 (by omega), y5 (by omega)], e3, e5⟩, e6⟩
    · rw [if_neg k3, if_neg k3] at e2
      by_cases k4 : x.kind = 4
      · rw [if_pos k4, if_pos k4] at e2
        simp only [List.cons_append, List.nil_append, List.cons.injEq] at e2
        exact ⟨nd_ext.2 ⟨hk, b8i_inj (x4 k4) (y4 k4) e2.1, by rw [x6 k3, y6 k3], by rw [x7 k2 k3, y7 k2 k3]⟩, e2.2⟩
      · rw [if_neg k4, if_neg k4] at e2
        exact ⟨nd_ext.2 ⟨hk, by rw [x5 k4, y5 k4], by rw [x6 k3, y6 k3], by rw [x7 k2 k3, y7 k2 k3]⟩, e2⟩
theorem enc_pos (x : ND) : 0 < (bytN x).length := Nat.succ_pos _
/-- What is read of bytes is the one that may be. -/
theorem dec_uniq : ∀ {d l : List ND} {q : List UInt8}, (∀ x ∈ d, CanN x) → (∀ x ∈ l, CanN x) → d.flatMap bytN ++ q = l.flatMap bytN → ∃ r, l = d ++ r ∧ r.flatMap bytN = q
  | [], l, q, _, _, e => ⟨l, rfl, e.symm⟩
  | x :: d, [], q, _, _, e => by
    have := enc_pos x
    have e2 := congrArg List.length e
    rw [List.flatMap_cons, List.length_append, List.length_append, List.flatMap_nil, List.length_nil] at e2; omega
  | x :: d, y :: l, q, hd, hl, e => by
    simp only [List.flatMap_cons, List.append_assoc] at e
    obtain ⟨rfl, e2⟩ := enc_inj (hd x (List.mem_cons_self ..)) (hl y (List.mem_cons_self ..)) e
    obtain ⟨r, e3, e4⟩ := dec_uniq (fun z hz => hd z (List.mem_cons_of_mem _ hz)) (fun z hz => hl z (List.mem_cons_of_mem _ hz)) e2
    exact ⟨r, by rw [e3]; rfl, e4⟩
def ReadOK (x : List UInt8) (l : List ND) : Prop := (∀ y ∈ l, CanN y) ∧ (rootN l).2 = true ∧ l.flatMap bytN = x
theorem read_uniq {x : List UInt8} (h1 : ReadOK x l) (h2 : ReadOK x r) : l = r := by
  obtain ⟨q, e, e2⟩ := dec_uniq (q := []) h1.1 h2.1 (by rw [List.append_nil, h1.2.2, h2.2.2])
  cases q with
  | nil => rw [e, List.append_nil]
  | cons y q => have := enc_pos y; have e3 := congrArg List.length e2; rw [List.flatMap_cons, List.length_append, List.length_nil] at e3; omega
/-- Nothing that is behind a proof makes another one of it. -/
theorem good_pre (h1 : (rootN l).2 = true) (h2 : (rootN (l ++ r)).2 = true) : r = [] := by
  rcases rootN_yes h1 with ⟨e1, _⟩ | ⟨p, _, e1, _⟩
  · subst e1
    rcases rootN_yes h2 with ⟨e2, _⟩ | ⟨q, _, e2, _⟩
    · simpa using e2
    · obtain ⟨x, s, e3, hk⟩ := PT.nodes_kind (p := q)
      rw [e3] at e2
      simp only [List.cons_append, List.nil_append, List.cons.injEq] at e2
      rw [← e2.1] at hk
      simp [ND0] at hk
  · rw [List.append_nil] at e1
    subst e1
    rcases rootN_yes h2 with ⟨e2, _⟩ | ⟨q, _, e2, _⟩
    · obtain ⟨x, s, e3, hk⟩ := PT.nodes_kind (p := p)
      rw [e3] at e2
      simp only [List.cons_append, List.cons.injEq] at e2
      rw [e2.1] at hk
      simp [ND0] at hk
    · exact (PT.nodes_inj e2).2
theorem PT.can : ∀ {p : PT} {ab : List TN}, p.Ok ab → ∀ x ∈ p.nodes, CanN x
  | cut h, _, ho, x, hx => by
    simp only [nodes, List.mem_singleton] at hx
    subst hx
    exact ⟨by simp, zeroH_len, ho, by simp, by simp, by simp, by simp⟩
  | item k v, _, ho, x, hx => by
    simp only [nodes, List.mem_singleton] at hx
    subst hx
    exact ⟨by simp, ho.1, ho.2.1, by simp, by simp, by simp, by simp⟩
  | fork b y z, _, ho, x, hx => by
    simp only [nodes, List.mem_cons, List.mem_append] at hx
    rcases hx with rfl | hx | hx
    · exact ⟨by simp, zeroH_len, zeroH_len, fun _ => ⟨ho.1.1, ho.1.2.1⟩, by simp, by simp, by simp⟩
    · exact can ho.2.1 x hx
    · exact can ho.2.2 x hx
theorem good_can (h : (rootN l).2 = true) : ∀ x ∈ l, CanN x := by
  rcases rootN_yes h with ⟨e1, _⟩ | ⟨p, ho, e1, _⟩
  · subst e1
    intro x hx
    simp only [List.mem_singleton] at hx
    subst hx
    exact ⟨by simp, zeroH_len, zeroH_len, by simp, by simp, by simp, by simp⟩
  · rw [List.append_nil] at e1
    subst e1
    exact PT.can ho
theorem read_bytes (h : (rootN l).2 = true) : ReadOK (bytesN l) l := ⟨good_can h, h, by rw [bytesN, if_pos h]⟩
theorem read_cut {i : Nat} (h : (rootN l).2 = true) (hi : i < (bytesN l).length) : ¬ ∃ n, ReadOK ((bytesN l).take i) n := by
  rintro ⟨n, h1, h2, h3⟩
  have e : n.flatMap bytN ++ (bytesN l).drop i = l.flatMap bytN := by rw [h3, List.take_append_drop, bytesN, if_pos h]
  obtain ⟨r, e1, e2⟩ := dec_uniq h1 (good_can h) e
  subst e1
  have := good_pre h2 h
  subst this
  have e3 := congrArg List.length e2
  rw [List.flatMap_nil, List.length_nil, List.length_drop] at e3
  omega
theorem bytes_pos (h : (rootN l).2 = true) : 0 < (bytesN l).length := by
  rw [bytesN, if_pos h]
  cases l with
  | nil => rw [root_none rfl] at h; simp at h
  | cons x l => rw [List.flatMap_cons, List.length_append]; have := enc_pos x; omega
end
/-! ### What shows what a map has -/
namespace Tr
def prv : Tr → List H8 → PT
  | leaf k v, ks => if ks = [] then .cut (itemH k v) else .item k v
  | fork b x y, ks => if ks = [] then .cut (root (fork b x y)) else .fork (b : Int) (x.prv (ks.filter fun k => decide (bitN k b = 0))) (y.prv (ks.filter fun k => decide (bitN k b = 1)))
theorem prv_root : ∀ (t : Tr) (ks : List H8), (t.prv ks).root = t.root
  | leaf k v, ks => by rw [prv]; split <;> rfl
  | fork b x y, ks => by
    rw [prv]; split
    · rfl
    · show forkH _ _ _ = forkH _ _ _
      rw [prv_root x, prv_root y]
theorem prv_ok : ∀ {t : Tr} {ks : List H8} {ab : List TN}, t.WF → (∀ e ∈ t.items, withinB e.1 ab = true) → (∀ i d, i < ab.length → (ab.getD i d).bit < (t.bit : Int)) → (t.prv ks).Ok ab
  | leaf k v, ks, ab, hw, hi, hb => by
    rw [prv]; split
    · exact itemH_len _ _
    · exact ⟨hw.1, hw.2, hi (k, v) (by simp [items])⟩
  | fork b x y, ks, ab, hw, hi, hb => by
    obtain ⟨h1, hx, hy, hbx, hby, h0, hh, _⟩ := id hw
    rw [prv]; split
    · exact root_len
    · refine ⟨⟨by omega, by omega, ?_⟩, prv_ok hx ?_ ?_, prv_ok hy ?_ ?_⟩
      · rcases Nat.eq_zero_or_pos ab.length with e | e
        · exact .inl e
        · exact .inr (hb _ _ (by omega))
      · intro e he
        rw [withinB, List.all_append, Bool.and_eq_true]
        exact ⟨hi e (by simp [items, he]), by simp [bitI_nat, h0 e he]⟩
      · intro i d hl
        rcases Nat.lt_or_ge i ab.length with h | h
        · have := hb i d h
          rw [show (ab ++ [(⟨b, 0⟩ : TN)]).getD i d = ab.getD i d by simp [List.getD, List.getElem?_append_left h]]
          simp only [bit] at this
          omega
        · obtain rfl : i = ab.length := by simp at hl; omega
          simp [List.getD]; omega
      · intro e he
        rw [withinB, List.all_append, Bool.and_eq_true]
        exact ⟨hi e (by simp [items, he]), by simp [bitI_nat, hh e he]⟩
      · intro i d hl
        rcases Nat.lt_or_ge i ab.length with h | h
        · have := hb i d h
          rw [show (ab ++ [(⟨b, 1⟩ : TN)]).getD i d = ab.getD i d by simp [List.getD, List.getElem?_append_left h]]
          simp only [bit] at this
          omega
        · obtain rfl : i = ab.length := by simp at hl; omega
          simp [List.getD]; omega
theorem split_len : ∀ (ks : List H8) (b : Nat), (ks.filter fun k => decide (bitN k b = 0)).length + (ks.filter fun k => decide (bitN k b = 1)).length = ks.length
  | [], _ => rfl
  | k :: ks, b => by
    have := split_len ks b
    have hb := bitN_lt k b
    rw [List.filter_cons, List.filter_cons]
    rcases (by omega : bitN k b = 0 ∨ bitN k b = 1) with h | h
    · simp [h]; omega
    · simp [h]; omega
theorem prv_nodes : ∀ {t : Tr} {ks : List H8}, (t.prv ks).nodes.length + 1 ≤ 2 * t.cnt
  | leaf a v, ks => by
    rw [prv]; split <;> simp [PT.nodes, cnt]
  | fork b x y, ks => by
    have cx := cnt_pos x
    have cy := cnt_pos y
    rw [prv]; split
    · simp only [PT.nodes, cnt, List.length_cons, List.length_nil]; omega
    · have h1 := prv_nodes (t := x) (ks := ks.filter fun k => decide (bitN k b = 0))
      have h2 := prv_nodes (t := y) (ks := ks.filter fun k => decide (bitN k b = 1))
      simp only [PT.nodes, cnt, List.length_cons, List.length_append]
      omega
end Tr
def prvN : Option Tr → List H8 → List ND
  | none, _ => [ND0]
  | some t, ks => (t.prv ks).nodes
section
variable {o : Option Tr} {ks : List H8} {k : H8}
theorem prvN_good (h : WFO o) : GoodN (prvN o ks) (rootT o) := by
  cases o with
  | none => exact .inl ⟨rfl, rfl⟩
  | some t => exact .inr ⟨t.prv ks, Tr.prv_ok (h t rfl) (fun _ _ => rfl) (fun i d hi => absurd hi (by simp)), (List.append_nil _).symm, (Tr.prv_root t ks).symm⟩
theorem prvN_root (h : WFO o) : rootN (prvN o ks) = (rootT o, true) := rootN_of (prvN_good h)
theorem prvN_len : (prvN o ks).length ≤ 2 * cntT o + 1 := by
  cases o with
  | none => simp [prvN]
  | some t => have := Tr.prv_nodes (t := t) (ks := ks); show (t.prv ks).nodes.length ≤ 2 * t.cnt + 1; omega
theorem prvN_can (h : WFO o) : ∀ x ∈ prvN o ks, CanN x := good_can (by rw [prvN_root h])
end
/-! ### A way through nodes -/
def nodesO : Option PT → List ND
  | none => [ND0]
  | some p => p.nodes
def sayO (k : H8) : Option PT → H8 × Bool × Bool
  | none => (zeroH, false, true)
  | some p => p.say k
section
variable {l r s t : List ND} {x : ND} {k h : H8} {q : Option PT} {p : PT}
theorem bytes_no (h : (rootN l).2 = false) : bytesN l = [] := by unfold bytesN; rw [if_neg (by rw [h]; simp)]
theorem bytes_yes (h : (rootN l).2 = true) : bytesN l = l.flatMap bytN := by unfold bytesN; rw [if_pos h]
end
end Go.Plain
