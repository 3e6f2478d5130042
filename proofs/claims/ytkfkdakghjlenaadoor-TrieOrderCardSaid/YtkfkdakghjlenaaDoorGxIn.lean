/-
  Own text: a plain region walked inside the wide fence: what the range over a function wants: a call of a round, the body of a round.
-/
import Derived.Test.YtkfkdakghjlenaaDoorGxAny
import Derived.RangeFuncNested
import Derived.RangeFuncBound
import Derived.RangeFuncCalls
import Derived.RangeFuncLeaves
import Derived.TacticsIn
import Derived.Shelf.Abstract
set_option linter.unusedSimpArgs false
set_option linter.unusedVariables false
namespace Go.Gx
open Go.RowKit
/-- The wide fence, in a round or in none. -/
def FW : Option Nat → Fence
  | none => Fence.wide
  | some l => Fence.wide.inRound l
theorem FW_depth (ro : Option Nat) : (FW ro).depth = none := by cases ro <;> rfl
theorem FW_fn (ro : Option Nat) (f : FuncId) : (FW ro).fn f := by cases ro <;> trivial
theorem FW_round (ro : Option Nat) : (FW ro).round = ro := by cases ro <;> rfl
theorem FW_calls {ro : Option Nat} {n : Nat} {P : Program} {f : FuncId} {args : Array Value} {w : World} {R : Ending → World → Prop} (h : Calls P f args w R) : CallsIn (FW ro) n P f args w R := by
  cases ro with
  | none => exact callsIn_wide.2 h
  | some l => exact CallsIn.inRound l (callsIn_wide.2 h)
theorem FW_rows {ro : Option Nat} {n : Nat} {P : Program} {row : String} {args : Array Value} {w : World} {R : Value → World → Prop} (h : Rows P row args w R) : RowsIn (FW ro) n P row args w R := fun c cs _ => by
  obtain ⟨v, w', r, s⟩ := h c cs
  refine ⟨v, w', r, ?_⟩
  cases ro with
  | none => exact stepsIn_wide.2 s
  | some l => exact stepsIn_wide.2 s
section
variable {P : Program} {ops : Array Oper} {Q : Exit → Act → World → Prop} {n m : Nat} {ro : Option Nat} {e : Env} {w : World} {rest : List Oper} {o : Oper}
def WLi (P : Program) (ops : Array Oper) (Q : Exit → Act → World → Prop) (n m : Nat) (ro : Option Nat) (l : List Oper) (e : Env) (w : World) : Prop := ∀ a, Fr n a e → wpListIn (FW ro) m P ops Q l a w
theorem in_of_wp {a : Act} {K : Act → World → Prop} (hnd : ∀ c, o.op ≠ .defer c) (h : o.wp P a w K Q) : o.wpIn (FW ro) m P a w K Q := by
  refine ⟨fun f _ => FW_fn ro f, ?_⟩
  rw [Oper.semAt_eq _ _ _ hnd]
  unfold Oper.wp at h
  revert h
  generalize (execOp a.eval o).run P w = r
  intro h
  cases r with
  | halt x w' => cases x <;> simp only [Oper.upon, Oper.uponIn] at h ⊢ <;> exact h
  | ok nx w' =>
    cases nx with
    | value v => exact h
    | skip => exact h
    | enter f args => exact ⟨fun hd => (by rw [FW_depth] at hd; cases hd), FW_calls h⟩
    | round l f t a b => simp only [Oper.upon] at h
    | defer d => exact h
    | row r args => exact ⟨fun hd => (by rw [FW_depth] at hd; cases hd), FW_rows h⟩
    | _ => simp only [Oper.upon] at h
theorem wli {d : Nat} {v : Value} (hg : o.guard = none) (hd : o.dst = some d) (hlt : Nat.blt d n = true) (hp : Pu P (· = w) n o e v) (k : WLi P ops Q n m ro rest ((d, v) :: e) w) (hnd : ∀ c, o.op ≠ .defer c := by intro c h; cases h) : WLi P ops Q n m ro (o :: rest) e w := by
  intro a F
  unfold wpListIn
  rw [if_pos (by simp [Region.wanted, hg])]
  refine in_of_wp hnd ?_
  simp only [Oper.wp, hp a F w rfl, Oper.upon, hd]
  exact k _ (F.put hlt v)
theorem wli_g {d : Nat} {v : Value} (hg : ∀ a, Fr n a e → Region.wanted o (yielded ops a.tmps) = true) (hd : o.dst = some d) (hlt : Nat.blt d n = true) (hp : Pu P (· = w) n o e v) (k : WLi P ops Q n m ro rest ((d, v) :: e) w) (hnd : ∀ c, o.op ≠ .defer c := by intro c h; cases h) : WLi P ops Q n m ro (o :: rest) e w := by
  intro a F
  unfold wpListIn
  rw [if_pos (hg a F)]
  refine in_of_wp hnd ?_
  simp only [Oper.wp, hp a F w rfl, Oper.upon, hd]
  exact k _ (F.put hlt v)
theorem wli_s {d : Nat} (hg : ∀ a, Fr n a e → Region.wanted o (yielded ops a.tmps) = false) (hd : o.dst = some d) (hlt : Nat.blt d n = true) (k : WLi P ops Q n m ro rest ((d, undef) :: e) w) : WLi P ops Q n m ro (o :: rest) e w := by
  intro a F
  unfold wpListIn
  rw [if_neg (by rw [hg a F]; decide), hd]
  exact ⟨fun f _ => FW_fn ro f, k _ (F.put hlt undef)⟩
theorem wlie (hg : o.guard = none) (hno : ¬ LetsOut Q) (h : OpE P n o e w Q (fun e' w' => WLi P ops Q n m ro rest e' w')) (hnd : ∀ c, o.op ≠ .defer c := by intro c h; cases h) : WLi P ops Q n m ro (o :: rest) e w := by
  intro a F
  unfold wpListIn
  rw [if_pos (by simp [Region.wanted, hg])]
  rcases h a F with h | h
  · exact in_of_wp hnd (Oper.wp_mono (fun a' w' ⟨e', F', hk⟩ => hk a' F') h)
  · exact absurd h.2 hno
theorem wlie_g (hg : ∀ a, Fr n a e → Region.wanted o (yielded ops a.tmps) = true) (hno : ¬ LetsOut Q) (h : OpE P n o e w Q (fun e' w' => WLi P ops Q n m ro rest e' w')) (hnd : ∀ c, o.op ≠ .defer c := by intro c h; cases h) : WLi P ops Q n m ro (o :: rest) e w := by
  intro a F
  unfold wpListIn
  rw [if_pos (hg a F)]
  rcases h a F with h | h
  · exact in_of_wp hnd (Oper.wp_mono (fun a' w' ⟨e', F', hk⟩ => hk a' F') h)
  · exact absurd h.2 hno
theorem wli_nil (h : WQ Q n .normal e w) : WLi P ops Q n m ro [] e w := fun a F => h a F
theorem wli_sub {l : List Oper} {e' : Env} (hs : Sub e e') (h : WLi P ops Q n m ro l e' w) : WLi P ops Q n m ro l e w := fun a F => h a (F.sub hs)
theorem wli_know {l : List Oper} {d : Nat} {b b' : Bool} (hl : look d e = some (.bool b)) (hb : b = b') (k : WLi P ops Q n m ro l ((d, .bool b') :: e) w) : WLi P ops Q n m ro l e w := fun a F => k a ((Le.known (hb ▸ hl)).fr F)
theorem wli_split {l : List Oper} {d : Nat} {b : Bool} (hl : look d e = some (.bool b)) (ht : b = true → WLi P ops Q n m ro l ((d, .bool true) :: e) w) (hf : b = false → WLi P ops Q n m ro l ((d, .bool false) :: e) w) : WLi P ops Q n m ro l e w := by
  cases b with
  | true => exact wli_know hl rfl (ht rfl)
  | false => exact wli_know hl rfl (hf rfl)
/-- A round is called. -/
theorem wli_yield {d : Nat} {f : Operand} {xs : Array Operand} {ts : Array TypeId} {l : Nat} {vs : List Value} {R : Ending → World → Prop} {rt : TypeId} {pos : String} {af : Array Edge} {gd : Option (Nat × Bool)} (hg : ∀ a, Fr n a e → Region.wanted ⟨some d, .call { callee := .value f, args := xs, argTypes := ts }, rt, pos, af, gd⟩ (yielded ops a.tmps) = true) (hlt : Nat.blt d n = true)
    (hf : ev e f = some (.func (.yield l) #[] #[])) (hx : evs e xs.toList = some vs) (hy : YieldAt Fence.wide (m - 1) P l vs.toArray w R) (hno : ¬ LetsOut Q)
    (k : ∀ ed w', R ed w' → ∃ v, ed = .returned v ∧ WLi P ops Q n m none rest ((d, v) :: e) w') : WLi P ops Q n m none (⟨some d, .call { callee := .value f, args := xs, argTypes := ts }, rt, pos, af, gd⟩ :: rest) e w := by
  intro a F
  unfold wpListIn
  rw [if_pos (hg a F)]
  obtain ⟨fn, tmps, assign, body, hrun, hR⟩ := hy
  refine ⟨fun f _ => FW_fn none f, ?_⟩
  rw [Oper.semAt_eq _ _ _ (by intro c h; cases h)]
  have hargs : xs.map a.eval = vs.toArray := by
    apply Array.toList_inj.1
    simp [F.evs hx]
  have he : (execOp a.eval ⟨some d, .call { callee := .value f, args := xs, argTypes := ts }, rt, pos, af, gd⟩).run P w = .ok (.round l fn tmps assign body) w := by
    simp [execOp, resolve, invoke, Deferred.ofValue, F.ev hf, hargs, hrun]
  rw [he]
  refine ⟨fun hd => (by rw [FW_depth] at hd; cases hd), hR.mono fun ed w' hed => ?_⟩
  obtain ⟨v, rfl, hk⟩ := k ed w' hed
  exact hk _ (F.put hlt v)
theorem wc_regionI {id : Nat} {l : List Oper} (m : Nat) (h : WLi P l.toArray Q n m none l e w) : WC P Q n (.region id l.toArray false) e w := fun a F => wpIn_wide.1 (wpIn_region_lit (h a F))
theorem no_then {K : Act → World → Prop} (h : ¬ LetsOut Q) : ¬ LetsOut (Exit.then K Q) := fun ⟨a, w, hq⟩ => h ⟨a, w, hq⟩
theorem no_in {i : Nat} (h : ¬ LetsOut Q) : ¬ LetsOut (Exit.inBlock i Q) := fun ⟨a, w, hq⟩ => h ⟨a, w, hq⟩
theorem no_body {fn : Func} {R : Ending → World → Prop} (h : ∀ w, ¬ R .outgrown w) : ¬ LetsOut (bodyPost P fn R) := fun ⟨a, w, hq⟩ => h w (by first | exact hq | exact hq.2)
end
theorem ch_put (W : World) (l : Nat) (o : Obj) : Ch (fun k => k = l) W (W.putObj l o) := ⟨rfl, rfl, rfl, by simp [World.putObj], fun k _ hn => World.putObj_heap_other (fun h => hn h)⟩
theorem Ch.heap {T : Nat → Prop} {W W' : World} (c : Ch T W W') {k : Nat} {o : Obj} (h : W.heap[k]? = some o) (hn : ¬ T k) : W'.heap[k]? = some o := (c.block k (Array.getElem?_eq_some_iff.1 h).1 hn).trans h
/-- What a frame knows, with marks among its deferred calls. -/
structure FrD (n : Nat) (ds : List Deferred) (a : Act) (e : Env) : Prop where
  size : a.tmps.size = n
  defs : a.defers = ds
  get : ∀ t v, look t e = some v → a.tmps.getD t undef = v
section
variable {P : Program} {Q : Exit → Act → World → Prop} {n : Nat} {e : Env} {w : World}
set_option maxHeartbeats 1000000 in
/-- A range over a function whose rounds always go on: M is what is known of the memory of what a round is handed, fresh since Wp. -/
theorem wc_rangeW {α : Type} {g : Operand} {ps : Array Tmp} {assign body : Code} {gf : Nat} {lb : Array Value} (m : Nat) (T : Nat → Prop)
    (hg : ev e g = some (.func (.func gf) #[] lb)) (eg : ∀ args w, (callFunc gf args).run P w = .ok (.enter gf args) w)
    (encs : α → Array Value) (hps : ∀ x, (encs x).size = ps.size) (M : List α → α → World → World → Prop) (S : List α → Prop)
    (hseq : ∀ (l : Nat) (J : List α → World → Prop) (W : World), Ch No w W → w.heap.size + 2 ≤ W.heap.size → (∀ xs A B, J xs A → Ch No A B → J xs B) →
      (∀ pre x Wp Wq, J pre Wp → Ch No Wp Wq → M pre x Wp Wq → YieldAt Fence.wide m P l (encs x) Wq fun ed W' => ed = .returned (.bool true) ∧ J (pre ++ [x]) W' ∧ Ch T Wq W') →
      J [] W → Calls P gf (#[.func (.yield l) #[] #[]] ++ lb) W fun ed W' => (∃ v, ed = .returned v) ∧ ∃ xs, S xs ∧ J xs W')
    (I : List α → World → Prop) (hI : ∀ xs A B, I xs A → Ch No A B → I xs B) (hIl : ∀ xs A B, I xs A → Ch (fun k => k = w.heap.size + 1) A B → I xs B)
    (hMl : ∀ pre x Wp A B, M pre x Wp A → Ch (fun k => k = w.heap.size + 1) A B → M pre x Wp B) (hT : ∀ k, w.heap.size ≤ k → T k)
    (h0 : ∀ W, Ch No w W → W.heap.size = w.heap.size + 2 → I [] W) (e1 : α → Env)
    (hassign : ∀ (l : Nat) (x : α) (W : World) (a : Act), Fr n a e → assign.wpIn (FW (some l)) m P (Exit.then (fun a1 W1 => W1 = W ∧ Fr n a1 (e1 x)) (fun _ _ _ => False)) { tmps := (ps.zip (encs x)).foldl (fun t (p, v) => t.setIfInBounds p v) a.tmps, defers := [] } W)
    (hbody : ∀ (l : Nat) (pre : List α) (x : α) (Wp W : World) (a1 : Act), l = w.heap.size + 1 → Fr n a1 (e1 x) → w.heap.size + 2 ≤ Wp.heap.size → I pre Wp → Ch (fun k => k = l) Wp W → M pre x Wp W →
      body.wpIn (FW (some l)) m P (Exit.then (fun _ W3 => I (pre ++ [x]) W3 ∧ Ch (fun k => T k ∧ k ≠ l ∧ k ≠ w.heap.size) W W3) (fun _ _ _ => False)) a1 W)
    (hdone : ∀ xs W a', S xs → I xs W → W.heap[w.heap.size]? = some (.deferred (some [])) → Ch T w W → FrD n [{ target := .collected w.heap.size, args := #[] }] a' e → Q .normal a' W) :
    WC P Q n (.rangeFunc g ps assign body) e w := by
  intro a F
  refine (wpIn_wide (n := 1)).1 (wpIn_rangeFunc fun fn _ => ?_)
  obtain ⟨rec, hrec⟩ : ∃ rec : LoopState → Loop, rec = fun st => { state := st, pending := none, fn, tmps := a.tmps, params := ps, assign, body, defers := w.heap.size } := ⟨_, rfl⟩
  obtain ⟨W1, hW1⟩ : ∃ W1, (w.alloc (.deferred (some []))).alloc (.loop (rec .ready)) = W1 := ⟨_, rfl⟩
  have hL1 : W1.heap[w.heap.size + 1]? = some (.loop (rec .ready)) := by
    rw [← hW1]; have := World.alloc_heap_new (w.alloc (.deferred (some []))) (.loop (rec .ready)); rwa [World.size_alloc] at this
  have hK1 : W1.heap[w.heap.size]? = some (.deferred (some [])) := by
    rw [← hW1]; exact (Ch.alloc (w.alloc (.deferred (some []))) (.loop (rec .ready))).heap (World.alloc_heap_new w (.deferred (some []))) (fun h => h)
  have hc1 : Ch No w W1 := by rw [← hW1]; exact (Ch.alloc w _).tr (Ch.alloc _ _)
  have hs1 : W1.heap.size = w.heap.size + 2 := by rw [← hW1]; simp
  refine ⟨w.heap.size + 1, [{ target := .collected w.heap.size, args := #[] }], W1, { target := .fn (.func gf) lb, args := #[.func (.yield (w.heap.size + 1)) #[] #[]] }, W1, gf,
    #[.func (.yield (w.heap.size + 1)) #[] #[]] ++ lb, W1, ?_, ?_, fun _ _ => trivial, ?_, fun hd => ?_, callsIn_wide.2 ?_⟩
  · rw [← hW1, hrec]; exact run_enterLoop_outer _ _ _ _ _
  · simp only [resolve, F.ev hg]
    simp [go_sem]
  · simp [invoke, go_sem, eg]
  · cases hd
  · have hcl := hseq (w.heap.size + 1) (fun xs W => I xs W ∧ W.heap[w.heap.size + 1]? = some (.loop (rec .ready)) ∧ W.heap[w.heap.size]? = some (.deferred (some [])) ∧ Ch T w W ∧ w.heap.size + 2 ≤ W.heap.size) W1 hc1 (by omega) ?_ ?_
      ⟨h0 W1 hc1 hs1, hL1, hK1, hc1.mono (fun _ _ h => h.elim), by omega⟩
    · refine hcl.mono ?_
      clear hcl
      rintro ed W2 ⟨⟨v, rfl⟩, xs, hS, h1, h2, h3, h4, h5⟩
      have c4 := fun o => ch_put W2 (w.heap.size + 1) o
      have he := run_endLoop (P := P) h2 (by rw [hrec]; simp)
      refine ⟨(rec .ready).pending, _, he, ?_⟩
      rw [show (rec .ready).pending = none by rw [hrec]]
      exact hdone xs _ _ hS (hIl _ _ _ h1 (c4 _)) ((c4 _).heap h3 (by omega)) (h4.trans (c4 _) (fun _ _ h => h) (fun k _ h => hT k (by omega))) ⟨F.size, by simp [F.defs], F.get⟩
    · rintro xs A B ⟨h1, h2, h3, h4, h5⟩ c
      exact ⟨hI xs A B h1 c, c.heap h2 (fun h => h), c.heap h3 (fun h => h), h4.tr c, Nat.le_trans h5 c.size⟩
    · rintro pre x Wp Wq ⟨h1, h2, h3, h4, h5⟩ c hM
      have hl := c.heap h2 (fun h => h)
      have hk := c.heap h3 (fun h => h)
      have hy := run_yield (P := P) (args := encs x) hl (by rw [hrec]; exact hps x)
      rw [hrec] at hy
      refine ⟨fn, _, assign, body, hy, roundIn_of_wpIn (F := Fence.wide) trivial (wpIn_mono (hassign (w.heap.size + 1) x Wq a F) ?_)⟩
      intro ex a1 Wz hz
      cases ex with
      | normal =>
        obtain ⟨rfl, F1⟩ := hz
        refine ⟨_, run_beginRound hl (by rw [hrec]), ?_⟩
        obtain ⟨W2, hW2⟩ : ∃ W2, Wz.putObj (w.heap.size + 1) (.loop { rec .ready with state := .busy }) = W2 := ⟨_, rfl⟩
        rw [hW2]
        have c2 : Ch (fun k => k = w.heap.size + 1) Wz W2 := by rw [← hW2]; exact ch_put _ _ _
        have hlt : w.heap.size + 1 < Wz.heap.size := (Array.getElem?_eq_some_iff.1 hl).1
        have hl2 : W2.heap[w.heap.size + 1]? = some (.loop { rec .ready with state := .busy }) := by rw [← hW2]; exact World.putObj_heap_same hlt
        have hk2 := c2.heap hk (by omega)
        have cp : Ch (fun k => k = w.heap.size + 1) Wp W2 := c.trans c2 (fun _ _ h => h.elim) (fun _ _ h => h)
        refine wpIn_mono (hbody (w.heap.size + 1) pre x Wp W2 a1 rfl F1 h5 h1 cp (hMl pre x Wp _ _ hM c2)) ?_
        intro ex a3 W3 hz
        cases ex with
        | normal =>
          obtain ⟨hI3, c3⟩ := hz
          have hl3 := c3.heap hl2 (fun h => h.2.1 rfl)
          have hk3 := c3.heap hk2 (fun h => h.2.2 rfl)
          have hr := run_endRound (P := P) none hl3
          refine ⟨_, _, hr, rfl, ?_, ?_⟩
          · have c4 := ch_put W3 (w.heap.size + 1) (.loop { { rec .ready with state := .busy } with state := if (none : Option Code).isNone then .ready else .done, pending := none })
            have hlt3 : w.heap.size + 1 < W3.heap.size := (Array.getElem?_eq_some_iff.1 hl3).1
            refine ⟨hIl _ _ _ hI3 c4, ?_, c4.heap hk3 (by omega), ?_, ?_⟩
            · rw [World.putObj_heap_same hlt3, hrec]; rfl
            · refine (h4.tr c).trans (c2.trans (c3.trans c4 (V := fun k => T k) (fun _ _ h => h.1) (fun k _ h => hT k (by omega))) (V := fun k => T k) (fun k _ h => hT k (by omega)) (fun _ _ h => h)) (fun _ _ h => h) (fun _ _ h => h)
            · refine Nat.le_trans ?_ c4.size
              have := c.size; have := c2.size; have := c3.size; omega
          · have c4 := ch_put W3 (w.heap.size + 1) (.loop { { rec .ready with state := .busy } with state := if (none : Option Code).isNone then .ready else .done, pending := none })
            exact c2.trans (c3.trans c4 (V := fun k => T k) (fun _ _ h => h.1) (fun k _ h => hT k (by omega))) (fun k _ h => hT k (by omega)) (fun _ _ h => h)
        | _ => exact hz.elim
      | _ => exact hz.elim
/-- A function with such a range in its body. -/
theorem enterM {f : FuncId} {fn : Func} {c : Code} {args : List Value} {R : Ending → World → Prop} (hf : P.funcs[f]? = some fn) (hb : fn.body = some c) (hn : fn.ntmps = n)
    (hl : Nat.ble args.length n = true) (h : WC P (bodyPostM Fence.wide 1 P fn R) n c (slots 0 args) w) : Calls P f args.toArray w R := by
  have hle : args.length ≤ n := Nat.le_of_ble_eq_true hl
  refine (callsIn_wide (n := 1)).1 (callsIn_of_wp_marks hf hb trivial (wpIn_wide.2 (h _ ⟨?_, rfl, ?_⟩)))
  · simp [hn]; omega
  · refine slots_get _ args 0 (fun i v hi => ?_)
    have hlt : i < args.length := (List.getElem?_eq_some_iff.1 hi).1
    have h2 : args[i]'hlt = v := (List.getElem?_eq_some_iff.1 hi).2
    simp [Array.getElem?_append, hlt, h2]
end
theorem FrD.sub {n : Nat} {ds : List Deferred} {a : Act} {e e' : Env} (F : FrD n ds a e) (h : Sub e e') : FrD n ds a e' := ⟨F.size, F.defs, fun t v hv => F.get t v (h.look t v hv)⟩
/-- What a round is handed lies in its slots: two values. -/
theorem Fr.hand2 {n : Nat} {a : Act} {e : Env} (F : Fr n a e) {p q : Nat} {u v : Value} (hp : Nat.blt p n = true) (hq : Nat.blt q n = true) : Fr n { tmps := (#[p, q].zip #[u, v]).foldl (fun t (p, v) => t.setIfInBounds p v) a.tmps, defers := [] } ((q, v) :: (p, u) :: e) := by
  have h := (F.put hp u).put hq v
  exact ⟨by simpa [Act.put] using h.size, rfl, fun t x hx => by simpa [Act.put] using h.get t x hx⟩
/-- A region that draws the order of what only yields values. -/
theorem wpAny_pureD {P : Program} {ops : Array Oper} {Q : Exit → Act → World → Prop} {n : Nat} {ds : List Deferred} {e : Env} {w : World} {dst : Nat → Nat} {deps : Nat → List Nat} {vals : Nat → Value}
    (hd : ∀ i o, ops[i]? = some o → o.guard = none ∧ o.dst = some (dst i) ∧ dst i < n ∧ look (dst i) e = none) (hnd : ∀ i j, i < ops.size → j < ops.size → dst i = dst j → i = j)
    (hedge : ∀ i o, ops[i]? = some o → ∀ x ∈ o.after, Region.binds .any x = true → x.on < i)
    (hdep : ∀ i, i < ops.size → ∀ j ∈ deps i, j < ops.size ∧ waitsN .any ops 8 i j = true)
    (hp : ∀ i o, ops[i]? = some o → Pu P (· = w) n o ((deps i).map (fun j => (dst j, vals j)) ++ e) (vals i))
    (hk : ∀ a, FrD n ds a e → (∀ i, i < ops.size → a.tmps.getD (dst i) undef = vals i) → Q .normal a w) :
    ∀ (k : Nat) (listed : Array Bool) (a : Act), listed.size = ops.size → left_ (fun i => !listed.getD i false) ops.size ≤ k → Closed .any ops listed → FrD n ds a e → (∀ i, i < ops.size → listed.getD i false = true → a.tmps.getD (dst i) undef = vals i) → wpAny P .any ops Q k listed a w := by
  have fin : ∀ (listed : Array Bool) (a : Act), listed.size = ops.size → Region.ready .any ops listed = [] → FrD n ds a e → (∀ i, i < ops.size → listed.getD i false = true → a.tmps.getD (dst i) undef = vals i) → Q .normal a w := by
    intro listed a hsz hr F hI
    refine hk a F fun i hi => hI i hi ?_
    have hall : ∀ m i, i < m → i < ops.size → listed.getD i false = true := by
      intro m
      induction m with
      | zero => intro i h; omega
      | succ m ih =>
        intro i hm hi
        by_cases e : i < m
        · exact ih i e hi
        · obtain rfl : i = m := by omega
          cases hl : listed.getD i false with
          | true => rfl
          | false =>
            exfalso
            have : i ∈ Region.ready .any ops listed := mem_ready.2 ⟨getD_ft (by omega) hl, ops[i], by simp [hi], fun x hx hb => ih x.on (hedge i _ (by simp [hi]) x hx hb) (by have := hedge i _ (by simp [hi]) x hx hb; omega)⟩
            rw [hr] at this; cases this
    exact hall (i + 1) i (by omega) hi
  intro k
  induction k with
  | zero =>
    intro listed a hsz hl hcl F hI
    have h0 := left_none (Nat.le_zero.1 hl)
    have hr : Region.ready .any ops listed = [] := by
      refine List.eq_nil_iff_forall_not_mem.2 fun i hi => ?_
      obtain ⟨h1, o, ho, _⟩ := mem_ready.1 hi
      have hlt : i < ops.size := by
        rcases Nat.lt_or_ge i ops.size with h | h
        · exact h
        · rw [Array.getElem?_eq_none h] at ho; cases ho
      have := h0 i hlt
      rw [getD_tf h1] at this; cases this
    exact ⟨hr, fin listed a hsz hr F hI⟩
  | succ k ih =>
    intro listed a hsz hl hcl F hI
    refine ⟨fun hr => fin listed a hsz hr F hI, fun i hi => ?_⟩
    obtain ⟨h1', o, ho, hall⟩ := mem_ready.1 hi
    have h1 := getD_tf h1'
    have hlt : i < ops.size := by
      rcases Nat.lt_or_ge i ops.size with h | h
      · exact h
      · rw [Array.getElem?_eq_none h] at ho; cases ho
    obtain ⟨hg, hd1, hd2, hd3⟩ := hd i o ho
    have hF2 : Fr n { a with defers := [] } ((deps i).map (fun j => (dst j, vals j)) ++ e) := by
      have key : ∀ js : List Nat, (∀ j ∈ js, a.tmps.getD (dst j) undef = vals j) → Fr n { a with defers := [] } (js.map (fun j => (dst j, vals j)) ++ e) := by
        intro js
        induction js with
        | nil => intro _; exact ⟨F.size, rfl, F.get⟩
        | cons j r ih2 =>
          intro hj
          have h2 := ih2 (fun x hx => hj x (by simp [hx]))
          refine ⟨F.size, rfl, fun t v hv => ?_⟩
          rw [List.map_cons, List.cons_append, look_cons] at hv
          by_cases e : dst j = t
          · rw [if_pos e] at hv; rw [← e]; exact (hj j (by simp)).trans (Option.some.inj hv)
          · rw [if_neg e] at hv; exact h2.get t v hv
      exact key _ (fun j hj => by
        obtain ⟨hjl, hw⟩ := hdep i hlt j hj
        exact hI j hjl (waitsN_spec hcl 8 i hw (fun ot hot x hx hb => by rw [ho] at hot; cases hot; exact hall x hx hb)))
    have hrun : (execOp a.eval o).run P w = .ok (.value (vals i)) w := hp i o ho _ hF2 w rfl
    unfold wpOp
    simp only [ho, Region.wanted, hg, if_true]
    refine .inl ?_
    simp only [Oper.wp, hrun, Oper.upon, hd1]
    have hslot : (a.put (some (dst i)) (vals i)).tmps.getD (dst i) undef = vals i := by simp [Act.put, F.size, hd2]
    have hoth : ∀ t, t ≠ dst i → (a.put (some (dst i)) (vals i)).tmps.getD t undef = a.tmps.getD t undef := fun t ht => by
      simp [Act.put, Array.getElem?_setIfInBounds_ne (Ne.symm ht)]
    have hlle : left_ (fun j => !(listed.setIfInBounds i true).getD j false) ops.size < left_ (fun j => !listed.getD j false) ops.size := by
      refine left_lt (fun j hj => ?_) (j := i) (by rw [h1]; rfl) (by rw [getD_set_true_self (by omega)]; decide) ops.size hlt
      by_cases e : j = i
      · subst e; rw [h1]; rfl
      · rw [getD_set_ne false (Ne.symm e)] at hj; exact hj
    refine ih _ _ (by simp [hsz]) (by omega) (hcl.step hi) ⟨by simp [Act.put, F.size], F.defs, fun t x hx => ?_⟩ (fun j hj hlj => ?_)
    · have hne : t ≠ dst i := fun h => by rw [h, hd3] at hx; cases hx
      rw [hoth t hne]; exact F.get t x hx
    · by_cases e : j = i
      · subst e; exact hslot
      · rw [getD_set_ne false (Ne.symm e)] at hlj
        rw [hoth (dst j) (fun h => e (hnd j i hj hlt h))]
        exact hI j hj hlj
def AllPu (P : Program) (w : World) (n : Nat) (e : Env) (dsts : List Nat) (deps : Nat → List Nat) (vals : Nat → Value) : Nat → List Oper → Prop
  | _, [] => True
  | k, o :: r => Pu P (· = w) n o ((deps k).map (fun j => (dsts.getD j 0, vals j)) ++ e) (vals k) ∧ AllPu P w n e dsts deps vals (k + 1) r
theorem AllPu.at_ {P : Program} {w : World} {n : Nat} {e : Env} {dsts : List Nat} {deps : Nat → List Nat} {vals : Nat → Value} : ∀ {l : List Oper} {k : Nat}, AllPu P w n e dsts deps vals k l → ∀ {i : Nat} {o : Oper}, l[i]? = some o → Pu P (· = w) n o ((deps (k + i)).map (fun j => (dsts.getD j 0, vals j)) ++ e) (vals (k + i))
  | [], _, _, i, _, h => by simp at h
  | _ :: _, k, h, 0, _, ho => by simp at ho; subst ho; exact h.1
  | _ :: r, k, h, i + 1, _, ho => by have := h.2.at_ (l := r) (by simpa using ho); rwa [show k + 1 + i = k + (i + 1) from by omega] at this
/-- The same, of a region of the text. -/
theorem wp_pureD {P : Program} {Q : Exit → Act → World → Prop} {n : Nat} {ds : List Deferred} {e : Env} {w : World} {id : Nat} {l : List Oper} (dsts : List Nat) (deps : Nat → List Nat) (vals : Nat → Value) (hm : P.follows .mixedOrders = true)
    (hd : l.map (·.dst) = dsts.map some) (hg : l.all (fun o => o.guard.isNone) = true) (hn : dsts.all (fun d => Nat.blt d n) = true) (hlook : dsts.all (fun d => (look d e).isNone) = true)
    (hc : ((List.range l.length).all (fun i => ((List.range l.length).all fun j => !(Nat.beq (dsts.getD i 0) (dsts.getD j 0)) || Nat.beq i j) && ((l.toArray[i]?).all fun o => o.after.all fun x => !(Region.binds .any x) || Nat.blt x.on i) && (deps i).all (fun j => Nat.blt j l.length && waitsN .any l.toArray 8 i j))) = true)
    (hp : AllPu P w.drew n e dsts deps vals 0 l) (hk : ∀ a, FrD n ds a e → (∀ i, i < l.length → a.tmps.getD (dsts.getD i 0) undef = vals i) → Q .normal a w.drew) {a : Act} (F : FrD n ds a e) : (Code.region id l.toArray true).wp P Q a w := by
  simp only [Bool.and_eq_true, List.all_eq_true, List.mem_range, Bool.or_eq_true, Bool.not_eq_true', Nat.blt_eq] at hc
  have hsz : l.toArray.size = l.length := by simp
  have hdst : ∀ (i : Nat) (o : Oper), l.toArray[i]? = some o → o.guard = none ∧ o.dst = some (dsts.getD i 0) ∧ dsts.getD i 0 ∈ dsts := fun i o ho => by
    have h1 : l[i]? = some o := by simpa using ho
    have h2 : (l.map (·.dst))[i]? = some o.dst := by rw [List.getElem?_map, h1]; rfl
    rw [hd, List.getElem?_map] at h2
    obtain ⟨d, h3, h4⟩ := Option.map_eq_some_iff.1 h2
    have h5 : dsts.getD i 0 = d := by simp [List.getD, h3]
    have h6 := List.all_eq_true.1 hg o (List.mem_of_getElem? h1)
    rw [h5]; exact ⟨by simpa using h6, h4.symm, List.mem_of_getElem? h3⟩
  refine wp_region_any hm (wpAny_pureD (n := n) (ds := ds) (e := e) (dst := fun i => dsts.getD i 0) (deps := deps) (vals := vals) (fun i o ho => ?_) (fun i j hi hj h => ?_) (fun i o ho x hx hb => ?_) (fun i hi j hj => ?_) (fun i o ho => ?_) (fun a1 F1 h1 => hk a1 F1 (fun i hi => h1 i (by simpa using hi))) _ _ _ (by simp) ?_ (closed_none _) F (fun i hi hl => ?_))
  · obtain ⟨h0, h1, h2⟩ := hdst i o ho
    refine ⟨h0, h1, ?_, ?_⟩
    · have := List.all_eq_true.1 hn _ h2; simpa [Nat.blt_eq] using this
    · have := List.all_eq_true.1 hlook _ h2; simpa using this
  · rcases (hc i (by omega)).1.1 j (by omega) with h' | h'
    · exfalso
      have h2 : dsts.getD i 0 = dsts.getD j 0 := h
      rw [h2, Nat.beq_refl] at h'
      cases h'
    · exact Nat.eq_of_beq_eq_true h'
  · have hi : i < l.length := by
      rcases Nat.lt_or_ge i l.length with h | h
      · exact h
      · rw [Array.getElem?_eq_none (by simpa using h)] at ho; cases ho
    have h1 := (hc i hi).1.2
    rw [ho] at h1
    simp only [Option.all_some] at h1
    have h2 := Array.all_eq_true'.1 h1 x hx
    simp only [Bool.or_eq_true, Bool.not_eq_true', Nat.blt_eq] at h2
    rcases h2 with h2 | h2
    · rw [hb] at h2; cases h2
    · exact h2
  · have := (hc i (by omega)).2 j hj
    exact ⟨by omega, this.2⟩
  · have h1 : l[i]? = some o := by simpa using ho
    have := hp.at_ h1
    rwa [Nat.zero_add] at this
  · have : ∀ (p : Nat → Bool) N, left_ p N ≤ N := fun p N => by
      induction N with
      | zero => exact Nat.le_refl _
      | succ N ih => simp only [left_]; split <;> omega
    exact this _ _
  · exfalso
    rw [Array.getD_eq_getD_getElem?] at hl
    rcases Nat.lt_or_ge i (Array.replicate l.toArray.size false).size with h | h
    · rw [Array.getElem?_eq_getElem h, Array.getElem_replicate] at hl; cases hl
    · rw [Array.getElem?_eq_none h] at hl; cases hl
end Go.Gx
