/-
  Own text: a range over a function whose rounds may leave early: by 'break', by 'return'.
-/
import Derived.Test.YtkfkdakghjlenaaDoorGxIn
set_option linter.unusedSimpArgs false
set_option linter.unusedVariables false
namespace Go.Gx
open Go.RowKit
/-- What is asked at a round's end: it goes on; it leaves by code that is kept. -/
def stopQ {α : Type} (b l : Nat) (I : List α → World → Prop) (Ix : Code → List α → World → Prop) (xs : List α) (W : World) : Exit → Act → World → Prop
  | .normal, _, W3 => I xs W3 ∧ Ch (fun k => k ≠ l ∧ k ≠ b) W W3
  | .ret, _, W3 => Ix .ret xs W3 ∧ Ch (fun k => k ≠ l ∧ k ≠ b) W W3
  | .exit i, _, W3 => Ix (.exit i) xs W3 ∧ Ch (fun k => k ≠ l ∧ k ≠ b) W W3
  | _, _, _ => False
/-- What an iterator is asked: D: what it may hand behind what has come; S: all has come; Sp: it was stopped there; X: what it looks at. -/
def SeqS {α : Type} (P : Program) (m gf : Nat) (lb : Array Value) (w : World) (encs : α → Array Value) (D : List α → α → Prop) (S Sp : List α → Prop) (X : World → Prop) : Prop :=
  ∀ (l : Nat) (J Jx : List α → World → Prop) (W : World), Ch No w W → w.heap.size + 2 ≤ W.heap.size → (∀ xs A B, J xs A → Ch No A B → J xs B) → (∀ xs A B, Jx xs A → Ch No A B → Jx xs B) → (∀ xs A, J xs A → X A) →
    (∀ pre x Wq, D pre x → J pre Wq → YieldAt Fence.wide m P l (encs x) Wq fun ed W' => (ed = .returned (.bool true) ∧ J (pre ++ [x]) W') ∨ (ed = .returned (.bool false) ∧ Jx (pre ++ [x]) W')) →
    J [] W → Calls P gf (#[.func (.yield l) #[] #[]] ++ lb) W fun ed W' => (∃ v, ed = .returned v) ∧ ((∃ xs, S xs ∧ J xs W') ∨ ∃ xs, Sp xs ∧ Jx xs W')
section
variable {P : Program} {Q : Exit → Act → World → Prop} {n : Nat} {e : Env} {w : World}
set_option maxHeartbeats 1000000 in
theorem wc_rangeS {α : Type} {g : Operand} {ps : Array Tmp} {assign body : Code} {gf : Nat} {lb : Array Value} (m : Nat)
    (hg : ev e g = some (.func (.func gf) #[] lb)) (eg : ∀ args w, (callFunc gf args).run P w = .ok (.enter gf args) w)
    (encs : α → Array Value) (hps : ∀ x, (encs x).size = ps.size) (D : List α → α → Prop) (S Sp : List α → Prop) (X : World → Prop)
    (hseq : SeqS P m gf lb w encs D S Sp X)
    (I : List α → World → Prop) (Ix : Code → List α → World → Prop) (hI : ∀ xs A B, I xs A → Ch No A B → I xs B) (hIx : ∀ c xs A B, Ix c xs A → Ch No A B → Ix c xs B)
    (hIl : ∀ xs A B, I xs A → Ch (fun k => k = w.heap.size + 1) A B → I xs B) (hIxl : ∀ c xs A B, Ix c xs A → Ch (fun k => k = w.heap.size + 1) A B → Ix c xs B)
    (hXI : ∀ xs W, I xs W → X W) (h0 : ∀ W, Ch No w W → W.heap.size = w.heap.size + 2 → I [] W)
    (hround : ∀ (l : Nat) (pre : List α) (x : α) (W : World), l = w.heap.size + 1 → D pre x → w.heap.size + 2 ≤ W.heap.size → I pre W → ∀ a, Fr n a e →
      assign.wpIn (FW (some l)) m P (Exit.then (fun a1 W1 => Ch (fun k => k ≠ l ∧ k ≠ w.heap.size) W W1 ∧ ∀ W2, Ch (fun k => k = l) W1 W2 → W2.heap.size = W1.heap.size → body.wpIn (FW (some l)) m P (stopQ w.heap.size l I Ix (pre ++ [x]) W2) a1 W2) (fun _ _ _ => False)) { tmps := (ps.zip (encs x)).foldl (fun t (p, v) => t.setIfInBounds p v) a.tmps, defers := [] } W)
    (hdone : ∀ xs W a', S xs → I xs W → W.heap[w.heap.size]? = some (.deferred (some [])) → FrD n [{ target := .collected w.heap.size, args := #[] }] a' e → Q .normal a' W)
    (hstop : ∀ c xs W a', Sp xs → Ix c xs W → W.heap[w.heap.size]? = some (.deferred (some [])) → FrD n [{ target := .collected w.heap.size, args := #[] }] a' e → c.wp P Q a' W) :
    WC P Q n (.rangeFunc g ps assign body) e w := by
  intro a F
  refine (wpIn_wide (n := 1)).1 (wpIn_rangeFunc fun fn _ => ?_)
  obtain ⟨rec, hrec⟩ : ∃ rec : LoopState → Option Code → Loop, rec = fun st pe => { state := st, pending := pe, fn, tmps := a.tmps, params := ps, assign, body, defers := w.heap.size } := ⟨_, rfl⟩
  obtain ⟨W1, hW1⟩ : ∃ W1, (w.alloc (.deferred (some []))).alloc (.loop (rec .ready none)) = W1 := ⟨_, rfl⟩
  have hL1 : W1.heap[w.heap.size + 1]? = some (.loop (rec .ready none)) := by
    rw [← hW1]; have := World.alloc_heap_new (w.alloc (.deferred (some []))) (.loop (rec .ready none)); rwa [World.size_alloc] at this
  have hK1 : W1.heap[w.heap.size]? = some (.deferred (some [])) := by
    rw [← hW1]; exact (Ch.alloc (w.alloc (.deferred (some []))) (.loop (rec .ready none))).heap (World.alloc_heap_new w (.deferred (some []))) (fun h => h)
  have hc1 : Ch No w W1 := by rw [← hW1]; exact (Ch.alloc w _).tr (Ch.alloc _ _)
  have hs1 : W1.heap.size = w.heap.size + 2 := by rw [← hW1]; simp
  refine ⟨w.heap.size + 1, [{ target := .collected w.heap.size, args := #[] }], W1, { target := .fn (.func gf) lb, args := #[.func (.yield (w.heap.size + 1)) #[] #[]] }, W1, gf,
    #[.func (.yield (w.heap.size + 1)) #[] #[]] ++ lb, W1, ?_, ?_, fun _ _ => trivial, ?_, fun hd => ?_, callsIn_wide.2 ?_⟩
  · rw [← hW1, hrec]; exact run_enterLoop_outer _ _ _ _ _
  · simp only [resolve, F.ev hg]
    simp [go_sem]
  · simp [invoke, go_sem, eg]
  · cases hd
  · have FD : FrD n [{ target := .collected w.heap.size, args := #[] }] { a with defers := [{ target := .collected w.heap.size, args := #[] }] ++ a.defers } e := ⟨F.size, by simp [F.defs], F.get⟩
    have hcl := hseq (w.heap.size + 1) (fun xs W => I xs W ∧ W.heap[w.heap.size + 1]? = some (.loop (rec .ready none)) ∧ W.heap[w.heap.size]? = some (.deferred (some [])) ∧ w.heap.size + 2 ≤ W.heap.size)
      (fun xs W => ∃ c, Ix c xs W ∧ W.heap[w.heap.size + 1]? = some (.loop (rec .done (some c))) ∧ W.heap[w.heap.size]? = some (.deferred (some []))) W1 hc1 (by omega) ?_ ?_ ?_ ?_ ⟨h0 W1 hc1 hs1, hL1, hK1, by omega⟩
    · refine hcl.mono ?_
      clear hcl
      rintro ed W2 ⟨⟨v, rfl⟩, ⟨xs, hS, h1, h2, h3, h5⟩ | ⟨xs, hS, c, h1, h2, h3⟩⟩
      · have c4 := fun o => ch_put W2 (w.heap.size + 1) o
        have he := run_endLoop (P := P) h2 (by rw [hrec]; simp)
        rw [hrec] at he
        exact ⟨none, _, he, hdone xs _ _ hS (hIl _ _ _ h1 (c4 _)) ((c4 _).heap h3 (by omega)) FD⟩
      · have c4 := fun o => ch_put W2 (w.heap.size + 1) o
        have he := run_endLoop (P := P) h2 (by rw [hrec]; simp)
        rw [hrec] at he
        exact ⟨some c, _, he, wpIn_wide.2 (hstop c xs _ _ hS (hIxl _ _ _ _ h1 (c4 _)) ((c4 _).heap h3 (by omega)) FD)⟩
    · rintro xs A B ⟨h1, h2, h3, h5⟩ c
      exact ⟨hI xs A B h1 c, c.heap h2 (fun h => h), c.heap h3 (fun h => h), Nat.le_trans h5 c.size⟩
    · rintro xs A B ⟨c', h1, h2, h3⟩ c
      exact ⟨c', hIx c' xs A B h1 c, c.heap h2 (fun h => h), c.heap h3 (fun h => h)⟩
    · rintro xs A ⟨h1, _⟩
      exact hXI xs A h1
    · rintro pre x Wq hD ⟨h1, hl, hk, h5⟩
      have hy := run_yield (P := P) (args := encs x) hl (by rw [hrec]; exact hps x)
      rw [hrec] at hy
      refine ⟨fn, _, assign, body, hy, roundIn_of_wpIn (F := Fence.wide) trivial (wpIn_mono (hround (w.heap.size + 1) pre x Wq rfl hD h5 h1 a F) ?_)⟩
      intro ex a1 Wz hz
      cases ex with
      | normal =>
        obtain ⟨c0, hz⟩ := hz
        have hlz := c0.heap hl (fun h => h.1 rfl)
        have hkz := c0.heap hk (fun h => h.2 rfl)
        refine ⟨_, run_beginRound hlz (by rw [hrec]), ?_⟩
        obtain ⟨W2, hW2⟩ : ∃ W2, Wz.putObj (w.heap.size + 1) (.loop { rec .ready none with state := .busy }) = W2 := ⟨_, rfl⟩
        rw [hW2]
        have c2 : Ch (fun k => k = w.heap.size + 1) Wz W2 := by rw [← hW2]; exact ch_put _ _ _
        have hlt : w.heap.size + 1 < Wz.heap.size := (Array.getElem?_eq_some_iff.1 hlz).1
        have hl2 : W2.heap[w.heap.size + 1]? = some (.loop { rec .ready none with state := .busy }) := by rw [← hW2]; exact World.putObj_heap_same hlt
        have hk2 := c2.heap hkz (by omega)
        have fin : ∀ (jump : Option Code) (W3 : World), Ch (fun k => k ≠ w.heap.size + 1 ∧ k ≠ w.heap.size) W2 W3 → ∃ W4, (Instr.endRound (w.heap.size + 1) jump).run P W3 = .ok (.bool jump.isNone) W4 ∧ Ch (fun k => k = w.heap.size + 1) W3 W4 ∧
            W4.heap[w.heap.size + 1]? = some (.loop (rec (if jump.isNone then .ready else .done) jump)) ∧ W4.heap[w.heap.size]? = some (.deferred (some [])) ∧ w.heap.size + 2 ≤ W4.heap.size := fun jump W3 c3 => by
          have hl3 := c3.heap hl2 (fun h => h.1 rfl)
          have hk3 := c3.heap hk2 (fun h => h.2 rfl)
          have hr := run_endRound (P := P) jump hl3
          have hlt3 : w.heap.size + 1 < W3.heap.size := (Array.getElem?_eq_some_iff.1 hl3).1
          have := c0.size; have := c2.size; have := c3.size
          refine ⟨_, hr, ch_put _ _ _, ?_, (ch_put _ _ _).heap hk3 (by omega), by simp [World.putObj]; omega⟩
          rw [World.putObj_heap_same hlt3, hrec]
        refine wpIn_mono (hz W2 c2 (by rw [← hW2]; simp [World.putObj])) ?_
        intro ex a3 W3 hz
        cases ex with
        | normal =>
          obtain ⟨hI3, c3⟩ := hz
          obtain ⟨W4, hr, c4, h6, h7, h8⟩ := fin none W3 c3
          exact ⟨_, W4, hr, .inl ⟨rfl, hIl _ _ _ hI3 c4, h6, h7, h8⟩⟩
        | ret =>
          obtain ⟨hI3, c3⟩ := hz
          obtain ⟨W4, hr, c4, h6, h7, h8⟩ := fin (some .ret) W3 c3
          exact ⟨_, W4, hr, .inr ⟨rfl, .ret, hIxl _ _ _ _ hI3 c4, h6, h7⟩⟩
        | exit i =>
          obtain ⟨hI3, c3⟩ := hz
          obtain ⟨W4, hr, c4, h6, h7, h8⟩ := fin (some (.exit i)) W3 c3
          exact ⟨_, W4, hr, .inr ⟨rfl, .exit i, hIxl _ _ _ _ hI3 c4, h6, h7⟩⟩
        | _ => exact hz.elim
      | _ => exact hz.elim
end
/-! ### Code walked inside the wide fence -/
def WCi (P : Program) (Q : Exit → Act → World → Prop) (n m : Nat) (ro : Option Nat) (c : Code) (e : Env) (w : World) : Prop := ∀ a, Fr n a e → c.wpIn (FW ro) m P Q a w
def NXi (P : Program) (Q : Exit → Act → World → Prop) (m : Nat) (ro : Option Nat) (y : Code) : Act → World → Prop := fun a w => y.wpIn (FW ro) m P Q a w
section
variable {P : Program} {Q : Exit → Act → World → Prop} {n m : Nat} {ro : Option Nat} {e : Env} {w : World}
theorem wci_seq {x y : Code} (h : WCi P (Exit.then (NXi P Q m ro y) Q) n m ro x e w) : WCi P Q n m ro (.seq x y) e w := fun a F => wpIn_seq (h a F)
theorem wci_region {id : Nat} {l : List Oper} (h : WLi P l.toArray Q n m ro l e w) : WCi P Q n m ro (.region id l.toArray false) e w := fun a F => wpIn_region_lit (h a F)
theorem wci_block {i : Nat} {c : Code} (h : WCi P (Exit.inBlock i Q) n m ro c e w) : WCi P Q n m ro (.block i c) e w := fun a F => wpIn_block (h a F)
theorem xi_seq {y : Code} {Q' : Exit → Act → World → Prop} (h : WCi P Q n m ro y e w) : WQ (Exit.then (NXi P Q m ro y) Q') n .normal e w := h
theorem xi_asg {W : World} {l b : Nat} {body : Code} {R : World → Exit → Act → World → Prop} {Q' : Exit → Act → World → Prop} (c : Ch (fun k => k ≠ l ∧ k ≠ b) W w) (h : ∀ W2, Ch (fun k => k = l) w W2 → W2.heap.size = w.heap.size → WCi P (R W2) n m ro body e W2) :
    WQ (Exit.then (fun a1 W1 => Ch (fun k => k ≠ l ∧ k ≠ b) W W1 ∧ ∀ W2, Ch (fun k => k = l) W1 W2 → W2.heap.size = W1.heap.size → body.wpIn (FW ro) m P (R W2) a1 W2) Q') n .normal e w := fun a F => ⟨c, fun W2 c2 hs => h W2 c2 hs a F⟩
theorem no_stop {α : Type} {b l : Nat} {I : List α → World → Prop} {Ix : Code → List α → World → Prop} {xs : List α} {W : World} : ¬ LetsOut (stopQ b l I Ix xs W) := fun ⟨_, _, h⟩ => h
theorem no_false {K : Act → World → Prop} : ¬ LetsOut (Exit.then K (fun _ _ _ => False)) := fun ⟨_, _, h⟩ => h
theorem wq_stop {α : Type} {b l : Nat} {I : List α → World → Prop} {Ix : Code → List α → World → Prop} {xs : List α} {W : World} (h : I xs w) (c : Ch (fun k => k ≠ l ∧ k ≠ b) W w) : WQ (stopQ b l I Ix xs W) n .normal e w := fun _ _ => ⟨h, c⟩
end
end Go.Gx
