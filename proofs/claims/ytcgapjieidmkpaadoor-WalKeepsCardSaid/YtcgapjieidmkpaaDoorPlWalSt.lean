/-
  Own text: what a log tells as it is gone through: byte strings handed to a round, the list that grows. Over any program.
-/
import Derived.Test.YtcgapjieidmkpaaDoorGxIn
import Derived.Test.YtcgapjieidmkpaaDoorPlWal
set_option linter.unusedVariables false
namespace Go.Gx
open Go.RowKit Go.Plain
/-- A byte string that was told, and where it ends. -/
structure WX where
  A : Option Addr
  l : Nat
  c : Nat
  e : Nat
  bs : List UInt8
instance : Inhabited WX := ⟨⟨none, 0, 0, 0, []⟩⟩
abbrev wxV (x : WX) : Value := .slice x.A x.l x.c
def wxEnc (x : WX) : Array Value := #[wxV x, i64 (x.e : Int)]
def wxEnd : List WX → Nat
  | [] => 0
  | [x] => x.e
  | _ :: y :: r => wxEnd (y :: r)
def wxM (n1 : Nat) (pre : List WX) (x : WX) (Wp W : World) : Prop := Sl W (fun k => Wp.heap.size ≤ k ∧ n1 ≤ k) u8v x.A x.l x.c x.bs ∧ wxEnd pre + 32 ≤ x.e ∧ x.e ≤ 1099511627776
theorem wxEnd_snoc : ∀ (pre : List WX) (x : WX), wxEnd (pre ++ [x]) = x.e
  | [], _ => rfl
  | [_], _ => rfl
  | _ :: y :: r, x => wxEnd_snoc (y :: r) x
/-- The list in its box, the place in its box, what was told. -/
def ScanI (E L g4 g5 n1 : Nat) (pre : List WX) (W : World) : Prop :=
  ∃ (A : Option Addr) (c : Nat) (G : Nat → Prop), Blk W g4 L #[.slice A pre.length c] ∧ Blk W g5 3 #[i64 (wxEnd pre : Int)] ∧ Row W (fun k => G k ∨ W.heap.size ≤ k) E 1 (.slice A pre.length c) pre.length (pre.map wxV) ∧ (∀ k, G k → n1 ≤ k ∧ k < W.heap.size) ∧
    (∀ i, i < pre.length → Sl W (fun k => n1 ≤ k ∧ ¬ G k ∧ k < W.heap.size) u8v (pre.getD i default).A (pre.getD i default).l (pre.getD i default).c (pre.getD i default).bs) ∧ n1 ≤ W.heap.size ∧ pre.length * 32 ≤ wxEnd pre ∧ wxEnd pre ≤ 1099511627776
section
variable {E L g4 g5 n1 : Nat} {pre : List WX} {A B : World}
theorem ScanI.keep {U : Nat → Prop} (h : ScanI E L g4 g5 n1 pre A) (c : Ch U A B) (h4 : ¬ U g4) (h5 : ¬ U g5) (hU : ∀ k, n1 ≤ k → k < A.heap.size → ¬ U k) : ScanI E L g4 g5 n1 pre B := by
  obtain ⟨X, k, G, a1, a2, a3, a4, a5, a6, a7⟩ := h
  refine ⟨X, k, G, a1.ch c h4, a2.ch c h5, ?_, fun j hj => ⟨(a4 j hj).1, Nat.lt_of_lt_of_le (a4 j hj).2 c.size⟩, fun i hi => ?_, Nat.le_trans a6 c.size, a7⟩
  · exact ((a3.mono (G := fun k => G k ∧ k < A.heap.size) (fun j hj hf => ⟨hf.resolve_right (by omega), hj⟩)).ch c (fun j hj hf => hU j (a4 j hf.1).1 hj)).mono (fun j _ hf => .inl hf.1)
  · exact ((a5 i hi).ch c (fun j hj => hU j hj.1 hj.2.2)).mono (fun j _ hj => ⟨hj.1, hj.2.1, Nat.lt_of_lt_of_le hj.2.2 c.size⟩)
theorem ScanI.no (h : ScanI E L g4 g5 n1 pre A) (c : Ch No A B) : ScanI E L g4 g5 n1 pre B := h.keep c (fun h => h) (fun h => h) (fun _ _ _ h => h)
theorem ScanI.nil (h4 : Blk A g4 L #[.slice none 0 0]) (h5 : Blk A g5 3 #[i64 0]) (hn : n1 ≤ A.heap.size) : ScanI E L g4 g5 n1 [] A :=
  ⟨none, 0, fun _ => False, h4, h5, Row.nil _ _ _ _, fun _ h => h.elim, fun i hi => by simp at hi, hn, by simp [wxEnd], by simp [wxEnd]⟩
theorem ScanI.sb (h : ScanI E L g4 g5 n1 pre A) : ∃ X c, Blk A g4 L #[.slice X pre.length c] ∧ Blk A g5 3 #[i64 (wxEnd pre : Int)] ∧ SB A (fun k => n1 ≤ k) X pre.length c (pre.map (·.bs)) := by
  obtain ⟨X, k, G, a1, a2, a3, a4, a5, a6, a7⟩ := h
  refine ⟨X, k, a1, a2, ⟨⟨pre.map (fun x => (x.A, x.l, x.c)), ?_, fun i hi => ?_⟩, by rw [List.length_map]⟩⟩
  · have hs : Sl A (fun k => G k ∨ A.heap.size ≤ k) wxV X pre.length k pre := a3.sl
    refine ⟨?_, by rw [List.length_map], hs.cap⟩
    rw [List.map_map]
    exact hs.rd.mono fun j hj hf => (a4 j (hf.resolve_right (by omega))).1
  · have e1 : (pre.map (fun x : WX => (x.A, x.l, x.c))).getD i (none, 0, 0) = ((pre.getD i default).A, (pre.getD i default).l, (pre.getD i default).c) := by simp only [List.getD, List.getElem?_map, List.getElem?_eq_getElem hi, Option.map_some, Option.getD_some]
    have e2 : (pre.map (·.bs)).getD i [] = (pre.getD i default).bs := by simp only [List.getD, List.getElem?_map, List.getElem?_eq_getElem hi, Option.map_some, Option.getD_some]
    rw [e1, e2]
    exact (a5 i hi).mono fun j _ hj => hj.1
/-- A round: a byte string more in the list, the place further on. -/
theorem scan_step {Wp W W2 W3 W4 W5 : World} {x : WX} {G : Nat → Prop} {X : Option Addr} {c : Nat} (hG : ∀ k, G k → n1 ≤ k ∧ k < Wp.heap.size) (hps : Wp.heap.size ≤ W.heap.size)
    (hC : ∀ i, i < pre.length → Sl W (fun k => n1 ≤ k ∧ ¬ G k ∧ k < Wp.heap.size) u8v (pre.getD i default).A (pre.getD i default).l (pre.getD i default).c (pre.getD i default).bs) (hM : wxM n1 pre x Wp W) (hle : pre.length * 32 ≤ wxEnd pre) (hn : n1 ≤ Wp.heap.size) (h45 : g4 ≠ g5) (h4 : g4 < n1) (h5 : g5 < n1)
    (c1 : Ch No W W2) (hR : Row W3 (fun k => G k ∨ W2.heap.size ≤ k) E 1 (.slice X (pre.length + 1) c) (pre.length + 1) (pre.map wxV ++ [wxV x])) (c2 : Ch (fun k => G k ∨ W2.heap.size ≤ k) W2 W3)
    (b4 : Blk W4 g4 L #[.slice X (pre.length + 1) c]) (c3 : Ch (fun k => k = g4) W3 W4) (b5 : Blk W5 g5 3 #[i64 (x.e : Int)]) (c4 : Ch (fun k => k = g5) W4 W5) :
    ScanI E L g4 g5 n1 (pre ++ [x]) W5 ∧ Ch (fun k => k = g4 ∨ k = g5 ∨ G k) W W5 := by
  have s1 := c1.size; have s2 := c2.size; have s3 := c3.size; have s4 := c4.size
  have hlen : (pre ++ [x]).length = pre.length + 1 := by simp
  have mv : ∀ {A' : Option Addr} {l' c' : Nat} {bs : List UInt8}, Sl W (fun k => n1 ≤ k ∧ ¬ G k ∧ k < W.heap.size) u8v A' l' c' bs → Sl W5 (fun k => n1 ≤ k ∧ ¬ (G k ∨ (W2.heap.size ≤ k ∧ k < W3.heap.size)) ∧ k < W5.heap.size) u8v A' l' c' bs := fun h => by
    have h2 := ((((h.ch c1 (fun _ _ h => h)).ch c2 (fun k hk ht => ht.elim hk.2.1 (fun ht => by have := hk.2.2; omega))).ch c3 (fun k hk ht => by have := hk.1; omega)).ch c4 (fun k hk ht => by have := hk.1; omega))
    exact h2.mono fun k _ hk => ⟨hk.1, fun h => h.elim hk.2.1 (fun h => by have := hk.2.2; omega), by have := hk.2.2; omega⟩
  refine ⟨⟨X, c, fun k => G k ∨ (W2.heap.size ≤ k ∧ k < W3.heap.size), by rw [hlen]; exact b4.ch c4 h45, by rw [wxEnd_snoc]; exact b5, ?_, fun k hk => ?_, fun i hi => ?_, by omega, by rw [hlen, wxEnd_snoc]; have := hM.2; omega, by rw [wxEnd_snoc]; exact hM.2.2⟩, ?_⟩
  · rw [hlen, List.map_append]
    have h2 := (((hR.mono (G := fun k => (G k ∨ W2.heap.size ≤ k) ∧ k < W3.heap.size) (fun k hk hf => ⟨hf, hk⟩)).ch c3 (fun k _ hk ht => by rcases hk.1 with h | h; have := hG k h; omega; omega)).ch c4 (fun k _ hk ht => by rcases hk.1 with h | h; have := hG k h; omega; omega))
    exact h2.mono fun k _ hk => .inl (hk.1.elim .inl (fun h => .inr ⟨h, hk.2⟩))
  · rcases hk with h | h
    · have := hG k h; omega
    · omega
  · rw [hlen] at hi
    by_cases e : i < pre.length
    · have e1 : (pre ++ [x]).getD i default = pre.getD i default := by simp only [List.getD, List.getElem?_append_left e]
      rw [e1]
      exact mv ((hC i e).mono fun k _ hk => ⟨hk.1, hk.2.1, by have := hk.2.2; omega⟩)
    · obtain rfl : i = pre.length := by omega
      have e1 : (pre ++ [x]).getD pre.length default = x := by simp [List.getD]
      rw [e1]
      exact mv (Sl.mono hM.1 fun k hk1 hk => ⟨hk.2, fun h => by have := hG k h; have := hk.1; omega, hk1⟩)
  · exact c1.trans (c2.trans (c3.trans c4 (V := fun k => k = g4 ∨ k = g5 ∨ G k) (fun _ _ h => .inl h) (fun _ _ h => .inr (.inl h))) (V := fun k => k = g4 ∨ k = g5 ∨ G k ∨ W2.heap.size ≤ k) (fun _ _ h => .inr (.inr h)) (fun _ _ h => h.imp id (Or.imp id .inl))) (fun _ _ h => h.elim) (fun k hk h => by
      rcases h with h | h | h | h
      · exact .inl h
      · exact .inr (.inl h)
      · exact .inr (.inr h)
      · omega)
end
/-! ### A list of byte strings that grows -/
def BL (E n1 : Nat) (pre : List WX) (A : Option Addr) (c : Nat) (W : World) : Prop :=
  ∃ G : Nat → Prop, Row W G E 1 (.slice A pre.length c) pre.length (pre.map wxV) ∧ (∀ k, G k → n1 ≤ k ∧ k < W.heap.size) ∧
    (∀ i, i < pre.length → Sl W (fun k => n1 ≤ k ∧ ¬ G k ∧ k < W.heap.size) u8v (pre.getD i default).A (pre.getD i default).l (pre.getD i default).c (pre.getD i default).bs)
section
variable {E n1 : Nat} {pre : List WX} {A : Option Addr} {c : Nat} {W : World}
theorem BL.nil : BL E n1 [] none 0 W := ⟨fun _ => False, Row.nil _ _ _ _, fun _ h => h.elim, fun i hi => by simp at hi⟩
theorem BL.sb (h : BL E n1 pre A c W) : SB W (fun k => n1 ≤ k) A pre.length c (pre.map (·.bs)) := by
  obtain ⟨G, a3, a4, a5⟩ := h
  refine ⟨⟨pre.map (fun x => (x.A, x.l, x.c)), ?_, fun i hi => ?_⟩, by rw [List.length_map]⟩
  · have hs : Sl W G wxV A pre.length c pre := a3.sl
    refine ⟨?_, by rw [List.length_map], hs.cap⟩
    rw [List.map_map]
    exact hs.rd.mono fun j hj hf => (a4 j hf).1
  · have e1 : (pre.map (fun x : WX => (x.A, x.l, x.c))).getD i (none, 0, 0) = ((pre.getD i default).A, (pre.getD i default).l, (pre.getD i default).c) := by simp only [List.getD, List.getElem?_map, List.getElem?_eq_getElem hi, Option.map_some, Option.getD_some]
    have e2 : (pre.map (·.bs)).getD i [] = (pre.getD i default).bs := by simp only [List.getD, List.getElem?_map, List.getElem?_eq_getElem hi, Option.map_some, Option.getD_some]
    rw [e1, e2]
    exact (a5 i hi).mono fun j _ hj => hj.1
/-- A byte string more: G is what the list had as the round began, in world Wr. -/
theorem BL.step {Wr W2 W3 : World} {x : WX} {G : Nat → Prop} {X : Option Addr} {c : Nat} (hG : ∀ k, G k → n1 ≤ k ∧ k < Wr.heap.size) (hz : Wr.heap.size ≤ W2.heap.size)
    (hC : ∀ i, i < pre.length → Sl W2 (fun k => n1 ≤ k ∧ ¬ G k ∧ k < Wr.heap.size) u8v (pre.getD i default).A (pre.getD i default).l (pre.getD i default).c (pre.getD i default).bs) (hn : n1 ≤ Wr.heap.size)
    (hX : Sl W2 (fun k => Wr.heap.size ≤ k ∧ k < W2.heap.size) u8v x.A x.l x.c x.bs)
    (hR : Row W3 (fun k => G k ∨ W2.heap.size ≤ k) E 1 (.slice X (pre.length + 1) c) (pre.length + 1) (pre.map wxV ++ [wxV x])) (c2 : Ch (fun k => G k ∨ W2.heap.size ≤ k) W2 W3) :
    BL E n1 (pre ++ [x]) X c W3 := by
  have s2 := c2.size
  have hlen : (pre ++ [x]).length = pre.length + 1 := by simp
  refine ⟨fun k => G k ∨ (W2.heap.size ≤ k ∧ k < W3.heap.size), ?_, fun k hk => ?_, fun i hi => ?_⟩
  · rw [hlen, List.map_append]
    exact hR.mono fun k hk hf => hf.imp id (fun h => ⟨h, hk⟩)
  · rcases hk with h | h
    · have := hG k h; omega
    · omega
  · rw [hlen] at hi
    by_cases e : i < pre.length
    · have e1 : (pre ++ [x]).getD i default = pre.getD i default := by simp only [List.getD, List.getElem?_append_left e]
      rw [e1]
      exact ((hC i e).ch c2 (fun k hk ht => ht.elim hk.2.1 (fun ht => by have := hk.2.2; omega))).mono fun k _ hk => ⟨hk.1, fun h => h.elim hk.2.1 (fun h => by have := hk.2.2; omega), by have := hk.2.2; omega⟩
    · obtain rfl : i = pre.length := by omega
      have e1 : (pre ++ [x]).getD pre.length default = x := by simp [List.getD]
      rw [e1]
      exact (hX.ch c2 (fun k hk ht => ht.elim (fun ht => by have := hG k ht; omega) (fun ht => by omega))).mono fun k _ hk => ⟨by omega, fun h => h.elim (fun h => by have := hG k h; omega) (fun h => by omega), by omega⟩
end
/-! ### A log that no call made -/
def NoLg (D : TypeId) (w : World) (v : Value) : Prop := v = .pointer none ∨ ∃ g, v = .pointer (some ⟨g, 0, none⟩) ∧ Blk w g D #[.pointer none, i64 0, i64 0, i64 0]
theorem NoLg.no {D : TypeId} {w w' : World} {v : Value} (h : NoLg D w v) (c : Ch No w w') : NoLg D w' v := by
  rcases h with h | ⟨g, h1, h2⟩
  · exact .inl h
  · exact .inr ⟨g, h1, h2.ch c (fun h => h)⟩
theorem NoLg.nil {D : TypeId} {w : World} : NoLg D w (.pointer none) := .inl rfl
theorem NoLg.zero {D : TypeId} {w : World} {g : Nat} (h : Blk w g D #[.pointer none, i64 0, i64 0, i64 0]) : NoLg D w (.pointer (some ⟨g, 0, none⟩)) := .inr ⟨g, rfl, h⟩
end Go.Gx
