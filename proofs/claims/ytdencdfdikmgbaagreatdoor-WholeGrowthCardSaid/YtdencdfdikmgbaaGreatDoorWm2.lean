/-
 Own text: general lemmas: a frame as a short list, operations, memory, records, an evaluator and its soundness, plain laws.
-/
import Derived.Test.YtdencdfdikmgbaaGreatDoorWm1
import Derived.OrdersIn
import Derived.LoopNIn
set_option linter.unusedVariables false
set_option linter.unusedSimpArgs false
namespace Go.Gx.Rx
open Go.RowKit Go.Gx
section
variable {P : Program} {T : Tab} {w0 w : World} {lo s n : Nat} {m : M} {E : AE} {e : Env} {Hp : H} {S : World → Prop}
theorem lG {b : B} {c : Nat} {es : ME} (h : ip b = some (c, es)) : b = .mp c es := by
 unfold ip at h; split at h <;> cases h; rfl
theorem pN {b : B} {r since last : Nat} {seen : List Nat} (h : isIt b = some (r, since, seen, last)) : b = .it r since seen last := by
 unfold isIt at h; split at h <;> cases h; rfl
theorem oq {id c : Nat} {es : ME} (h : bF Hp id = some (.mp c es)) {w : World} (hw : HR m Hp w) : ∃ q ents, m id = some q ∧ w.heap[q.1]? = some (.map (List.toArray ents) c) ∧ MR m es ents := by
 obtain ⟨q, h1, ents, h2, h3⟩ := hw id _ h
 exact ⟨q, ents, h1, h2, h3⟩
theorem qX {g since last : Nat} {r : Option Nat} {seen : Array Nat} {w : World} (h : w.heap[g]? = some (.mapIter r since seen last)) : (getObj g).run P w = .ok (.mapIter r since seen last) w := by simp [getObj, Sem.run, h]
theorem nc (R : ER m E e) {w0 : World} (h0 : S w0) (hS : ∀ w, S w → HR m Hp w) {it : Operand} {X : V} {id mid since last bn clock : Nat} {seen : List Nat} {es : ME} {k : C} {wd : W} (hX : aev E it = some X) (hp : asP X = some (id, 0)) (hb : bF Hp id = some (.it mid since seen last)) (hl : seen.getLast? = some bn) (hm : bF Hp mid = some (.mp clock es)) (hc : clock = last) (hbn : kf bn es = some (k, wd)) :
  Yh P m e S (.entry it) (.t [.c k, wd]) := by
 obtain ⟨v, h1, h2⟩ := ay R hX
 obtain ⟨q, h3, rfl, _⟩ := da hp h2
 subst hc
 have at_ : ∀ w, S w → ∃ en : MapEntry, (Instr.entry (.pointer (some ⟨q.1, 0, none⟩))).run P w = .ok (.tuple #[en.key, en.val]) w ∧ cv1 m k = some en.key ∧ wv m wd = some en.val := by
  intro w hw
  obtain ⟨q1, g1, q2, g2, g3⟩ := hS w hw id _ hb
  rw [h3] at g1; cases g1
  obtain ⟨q3, ents, g4, g5, g6⟩ := oq hm (hS w hw)
  rw [g2] at g4; cases g4
  obtain ⟨en, f1, f2, f3⟩ := mW hbn g6
  refine ⟨en, ?_, f2, f3⟩
  have hback : seen.toArray.back? = some bn := by rw [List.back?_toArray]; exact hl
  simp only [Instr.entry, Sem.run_bind, qX g3, Result.andThen_ok, hback, MapKept.run_getObj_map g5, bne_self_eq_false, Bool.false_eq_true, if_false, Sem.run_pure]
  have : ents.toArray.find? (fun x => x.born == bn) = some en := by rw [List.find?_toArray]; exact f1
  simp only [this, Sem.run_pure]
 obtain ⟨en, _, f2, f3⟩ := at_ w0 h0
 refine Yh.of (v := .tuple #[en.key, en.val]) (od (w1 := .c k) f2 f3) (fun n dst rt pos af gd a F w hw => ?_)
 obtain ⟨en', g1, g2, g3⟩ := at_ w hw
 rw [f2] at g2; rw [f3] at g3
 have e1 := Option.some.inj g2
 have e2 := Option.some.inj g3
 simp [execOp, F.ev h1, g1, e1, e2]
theorem pO (x : Nat) : ∀ l : List Nat, nmem x l = l.contains x
 | [] => rfl
 | y :: r => by
  rw [nmem, List.contains_cons]
  cases hb : Nat.beq y x with
  | true =>
   have := Nat.eq_of_beq_eq_true hb
   subst this; simp
  | false =>
   have := gJ hb
   rw [pO x r]
   have h2 : (x == y) = false := by simpa using (fun h => this h.symm)
   simp [h2]
theorem jD {seen : List Nat} : ∀ {es : ME} {ents : List MapEntry}, MR m es ents → MR m (jy seen es) (ents.filter fun e => !seen.contains e.born)
 | [], [], _ => trivial
 | (k, w, b) :: r, en :: es, hm => by
  obtain ⟨h1, h2, h3, h4⟩ := hm
  rw [jy, List.filter_cons, pO, h3]
  cases hc : seen.contains b with
  | true => simp only [Bool.not_true, Bool.false_eq_true, if_false]; exact jD h4
  | false => simp only [Bool.not_false, if_true]; exact ⟨h1, h2, h3, jD h4⟩
theorem pP {since : Nat} : ∀ {es : ME} {ents : List MapEntry}, sR since es = true → MR m es ents → ∀ x ∈ ents, x.born < since
 | [], [], _, _, x, hx => by cases hx
 | (k, w, b) :: r, en :: es, h, hm, x, hx => by
  obtain ⟨h1, h2, h3, h4⟩ := hm
  unfold sR at h
  split at h
  ·rename_i hb
   have hb : b < since := by simpa [Nat.blt_eq] using hb
   rcases List.mem_cons.1 hx with rfl | hx
   ·rw [h3]; exact hb
   exact pP h h4 x hx
  cases h
theorem ne (K : TabOK P T) (R : ER m E e) (I : Inv w0 lo m Hp w s) {t id clock : Nat} {q0 : Nat × Nat} {x : Operand} {X : V} {es : ME} {dst : Option Nat} {E' : AE} {Hp' : H} {s' : Nat} (ht : T.isMap t = some q0) (hX : aev E x = some X) (hid : asM X = some id) (hm : bF Hp id = some (.mp clock es)) (h : fE n dst E Hp s (.c (.p s 0)) (.it id clock [] clock) = some (E', Hp', s')) : Ef1 P w0 lo m e w s n dst (.range t x) E' Hp' s' := by
 obtain ⟨d, rfl, hlt, rfl, rfl, rfl⟩ := fX h
 obtain ⟨xv, x1, x2⟩ := ay R hX
 obtain ⟨q, x3, rfl⟩ := nX hid x2
 obtain ⟨q', ents, g1, g2, g3⟩ := oq hm I.hr
 rw [x3] at g1; cases g1
 refine fun rt pos af gd => bl rfl hlt (w' := w.alloc (.mapIter (some q.1) clock #[] clock)) (v := .pointer (some ⟨w.heap.size, 0, none⟩)) (fun a F => ?_) (fj (cap := 0) I R rfl (by simp) (Ch.alloc w _) ⟨q, ?_, heap_alloc_new w _⟩ (lA (M.add_self _ _ _)))
 ·simp [execOp, F.ev x1, Instr.range, Sem.run_bind, run_underlying (K.map ht), MapKept.run_getObj_map g2, newObj, Sem.run, Result.andThen]
 exact M.add_le _ _ (I.fre s (Nat.le_refl _)) _ _ x3
theorem ng {g : Nat} {o : Obj} {w1 : World} (h : w1 = w ∨ w1 = w.drew) : Ch (fun k => k = g) w (ChangeMaps.setBlock w1 g o) := by
 have hl : w1.heap = w.heap := by rcases h with rfl | rfl <;> rfl
 have e1 : w1.os = w.os ∧ w1.tape = w.tape ∧ w1.output = w.output := by rcases h with rfl | rfl <;> exact ⟨rfl, rfl, rfl⟩
 exact ⟨e1.1, e1.2.1, e1.2.2, by simp [ChangeMaps.setBlock, hl], fun k _ hn => by simp [ChangeMaps.setBlock, hl, Array.getElem?_setIfInBounds_ne (Ne.symm hn)]⟩
theorem nh {g : Nat} {o o' : Obj} {w1 : World} (h : w1 = w ∨ w1 = w.drew) (hg : w.heap[g]? = some o') : (ChangeMaps.setBlock w1 g o).heap[g]? = some o := by
 have hl : w1.heap = w.heap := by rcases h with rfl | rfl <;> rfl
 have : g < w.heap.size := (Array.getElem?_eq_some_iff.1 hg).1
 simp [ChangeMaps.setBlock, hl, this]
theorem jE (R : ER m E e) (I : Inv w0 lo m Hp w s) {x : Operand} {X : V} {id mid since last clock : Nat} {seen : List Nat} {es : ME} {d : Nat} (hX : aev E x = some X) (hp : asP X = some (id, 0)) (hlo : lo ≤ id) (hb : bF Hp id = some (.it mid since seen last)) (hm : bF Hp mid = some (.mp clock es)) (ho : sR since es = true) (hsl : since ≤ last) (hlt : Nat.blt d n = true) :
  (jy seen es = [] → Ef1 P w0 lo m e w s n (some d) (.next x false) (cZ d (.t [.c (.b false)]) E) Hp s) ∧ ∀ kk wd bn, jy seen es = [(kk, wd, bn)] → Ef1 P w0 lo m e w s n (some d) (.next x false) (cZ d (.t [.c (.b true), .c kk, wd]) E) (cw Hp id (.it mid since (seen ++ [bn]) clock)) s := by
 obtain ⟨v, h1, h2⟩ := ay R hX
 obtain ⟨q, h3, rfl, _⟩ := da hp h2
 obtain ⟨q1, g1, q2, g2, g3⟩ := I.live id _ hb
 rw [h3] at g1; cases g1
 obtain ⟨q3, ents, g4, g5, g6⟩ := oq hm I.hr
 rw [g2] at g4; cases g4
 have hleft := jD (seen := seen) g6
 have hlo' : leftOf ents.toArray seen.toArray = (ents.filter fun e => !seen.contains e.born).toArray := by
  unfold leftOf
  rw [List.filter_toArray]
  congr 1
  exact List.filter_congr (fun e _ => by rw [List.contains_toArray])
 have nx := fun rt => run_next_at (P := P) w rt q.1 q2.1 since last seen.toArray ents.toArray clock g3 g5 (fun y hy => pP ho g6 y hy) hsl
 constructor
 ·intro hl rt pos af gd
  rw [hl] at hleft
  have hnil : (ents.filter fun e => !seen.contains e.born) = [] := by
   cases hf : (ents.filter fun e => !seen.contains e.born) with
   | nil => rfl
   | cons a r => rw [hf] at hleft; exact hleft.elim
  rw [hnil] at hlo'
  rcases nx rt with ⟨_, hr⟩ | ⟨z, hz, _⟩
  ·exact bl rfl hlt (fun a F => by simp [execOp, F.ev h1, hr]) (iW I R rfl)
  rw [hlo'] at hz; simp at hz
 intro kk wd bn hl rt pos af gd
 rw [hl] at hleft
 have hone : ∃ en, (ents.filter fun e => !seen.contains e.born) = [en] := by
  cases hf : (ents.filter fun e => !seen.contains e.born) with
  | nil => rw [hf] at hleft; exact hleft.elim
  | cons a r =>
   rw [hf] at hleft
   cases r with
   | nil => exact ⟨a, rfl⟩
   | cons b r => exact hleft.2.2.2.elim
 obtain ⟨en, hone⟩ := hone
 rw [hone] at hleft hlo'
 obtain ⟨f1, f2, f3, _⟩ := hleft
 rcases nx rt with ⟨h0, _⟩ | ⟨z, hz, w1, hw1, hr⟩
 ·rw [hlo'] at h0; simp at h0
 rw [hlo'] at hz
 have hz : z = en := by simpa using hz
 subst hz
 refine bl rfl hlt (w' := ChangeMaps.setBlock w1 q.1 (.mapIter (some q2.1) since (seen.toArray.push z.born) clock)) (fun a F => by simp [execOp, F.ev h1, hr]) ⟨m, I.upd hlo hb h3 (ng hw1) ⟨q2, g2, ?_⟩, R.put d (s8 (w1 := .c (.b true)) (w2 := .c kk) rfl f1 f2)⟩
 rw [nh hw1 g3, ← f3]
 simp
/-! ### Calls -/
def Cr (w0 : World) (lo : Nat) (m : M) (s : Nat) (V : V) (Hp' : H) (s' : Nat) : Ending → World → Prop := fun ed w' => ∃ m' v, ed = .returned v ∧ Aft w0 lo m s m' Hp' w' s' ∧ vv m' V = some v
def eE (P : Program) (f : FuncId) (args : List Value) (w : World) (R : Ending → World → Prop) : Prop := (Ent P f ∧ Calls P f args.toArray w R) ∨ ∃ v w', (callFunc f args.toArray).run P w = .ok (.value v) w' ∧ R (.returned v) w'
def fk (P : Program) (call : Nat → List V → Nat → H → Nat → R) : Prop := ∀ f vs lo Hp s V Hp' s', call f vs lo Hp s = some (V, Hp', s') → ∀ (m : M) (w w0 : World) (args : List Value), lo ≤ s → (∀ g, Nat.blt g 4 = true → m g = some (g, 0)) → Inv w0 lo m Hp w s → vvs m vs = some args → eE P f args w (Cr w0 lo m s V Hp' s')
theorem dx {d : Option Nat} {V : V} {E' : AE} (h : sto n d V E = some E') : (∃ d', d = some d' ∧ Nat.blt d' n = true ∧ E' = cZ d' V E) ∨ (d = none ∧ E' = E) := by
 unfold sto at h
 split at h
 ·split at h
  ·cases h; exact .inl ⟨_, rfl, by assumption, rfl⟩
  cases h
 cases h; exact .inr ⟨rfl, rfl⟩
theorem gK : ∀ {caps : List (Nat × Nat)} {vs : List Value}, pvs m caps = some vs → vvs m (caps.map fun (i, o) => Rx.V.c (.p i o)) = some vs
 | [], vs, h => h
 | (i, o) :: r, vs, h => by
  simp only [pvs, Option.bind_eq_bind, Option.bind_eq_some_iff, Option.some.injEq] at h
  obtain ⟨q, h1, us, h2, rfl⟩ := h
  exact vvs_cons.2 ⟨_, us, lA h1, gK h2, rfl⟩
theorem ou {call : Nat → List V → Nat → H → Nat → R} (CO : fk P call) (R : ER m E e) (I : Inv w0 lo m Hp w s) (hls : lo ≤ s) {fo : Operand} {args : Array Operand} {ts : Array TypeId} {f : Nat} {caps : List (Nat × Nat)} {Vs : List V} {V : V} {dst : Option Nat} {E' : AE} {Hp' : H} {s' : Nat} (hf : aev E fo = some (.c (.f f caps))) (hV : mL E args.toList = some Vs) (hc : call f (Vs ++ caps.map fun (i, o) => Rx.V.c (.p i o)) lo Hp s = some (V, Hp', s')) (hs : sto n dst V E = some E') :
  Ef1 P w0 lo m e w s n dst (.call { callee := .value fo, args := args, argTypes := ts }) E' Hp' s' := by
 obtain ⟨fv, f1, f2⟩ := ay R hf
 simp only [vv, cv, Option.bind_eq_bind, Option.bind_eq_some_iff, Option.some.injEq] at f2
 obtain ⟨cs, f3, rfl⟩ := f2
 obtain ⟨vs, v1, v2⟩ := eC R hV
 have hco := CO _ _ _ _ _ _ _ _ hc m w w0 (vs ++ cs) hls R.gl I (pG v2 (gK f3))
 intro rt pos af gd a F
 have hargs : args.map a.eval = vs.toArray := by
  apply Array.toList_inj.1
  rw [Array.toList_map, F.evs v1]
 have fin : ∀ v w', Cr w0 lo m s V Hp' s' (.returned v) w' → ∃ e', Fr n (a.put dst v) e' ∧ Kx w0 lo m s E' Hp' s' e' w' := fun v w' hR => by
  obtain ⟨m', v', hv, A, hvv⟩ := hR
  cases hv
  rcases dx hs with ⟨d, rfl, hlt, rfl⟩ | ⟨rfl, rfl⟩
  ·exact ⟨_, F.put hlt v, m', A, (R.le (I.le A.ext)).put d hvv⟩
  exact ⟨_, F, m', A, R.le (I.le A.ext)⟩
 rcases hco with ⟨hent, hcalls⟩ | ⟨v, w', hrun, hR⟩
 ·refine .inl ?_
  have hr : (execOp a.eval ⟨dst, .call { callee := .value fo, args := args, argTypes := ts }, rt, pos, af, gd⟩).run P w = .ok (.enter f (vs ++ cs).toArray) w := by
   simp only [execOp, resolve, hargs, F.ev f1, Deferred.ofValue]
   simp [invoke, dW hent]
  simp only [Oper.wp, hr, Oper.upon]
  refine hcalls.mono fun ed w' hR => ?_
  obtain ⟨m', v', rfl, A, hvv⟩ := hR
  exact fin v' w' ⟨m', v', rfl, A, hvv⟩
 refine .inl ?_
 have hr : (execOp a.eval ⟨dst, .call { callee := .value fo, args := args, argTypes := ts }, rt, pos, af, gd⟩).run P w = .ok (.value v) w' := by
  simp only [execOp, resolve, hargs, F.ev f1, Deferred.ofValue]
  simp [invoke, hrun]
 simp only [Oper.wp, hr, Oper.upon]
 exact fin v w' hR
end
end Go.Gx.Rx
namespace Go.Gx.Rx
open Go.RowKit Go.Gx
section
variable {P : Program} {T : Tab} {w0 w : World} {lo s n : Nat} {m : M} {E : AE} {e : Env} {Hp : H} {S : World → Prop}
theorem ku (K : TabOK P T) (R : ER m E e) {w0 : World} (h0 : S w0) (hS : ∀ w, S w → HR m Hp w) {op : Op} {V : V} (h : rop T E Hp op = some V) : Yh P m e S op V := by
 unfold rop at h
 split at h
 ·simp only [Option.bind_eq_bind, Option.bind_eq_some_iff, Option.some.injEq] at h
  obtain ⟨td, htd, n, hn, X, hX, p, hp, l, hl, wd, hw, rfl⟩ := h
  exact oa K R h0 hS htd hn hX hp hl hw
 ·simp only [Option.bind_eq_bind, Option.bind_eq_some_iff, Option.some.injEq, gu_eq] at h
  obtain ⟨u, ht, el, hs, k, hk, _, hk8, X, hX, c, hc, l, hl, b, hb, rfl⟩ := h
  have hk8 := of_decide_eq_true hk8
  subst hk8
  exact qN K R h0 hS ht hs hk hX hc hl hb
 ·simp only [Option.bind_eq_bind, Option.bind_eq_some_iff] at h
  obtain ⟨q, ht, X, hX, c, hc, Kv, hK, kc, hkc, u, hkt, td, htd, z, hz, zw, hzw, es, hes, r, hr, h⟩ := h
  have := lD K R h0 hS ht hX hc hK hkc hkt htd hz hzw hes hr (ok := ?_)
  rotate_left
  ·rename_i t x k ok
   exact ok
  cases r with
  | none =>
   simp only [Option.some.injEq] at h
   subst h
   exact this
  | some wd =>
   simp only [Option.some.injEq] at h
   subst h
   exact this
 ·simp only [Option.bind_eq_bind, Option.bind_eq_some_iff, gu_eq] at h
  obtain ⟨X, hX, p, hp, _, ho, b, hb, r, hr, bn, hbn, mb, hmb, q, hq, _, hc, kw, hkw, h⟩ := h
  obtain ⟨id, o⟩ := p
  obtain ⟨mid, since, seen, last⟩ := r
  obtain ⟨clock, es⟩ := q
  obtain ⟨k, wd⟩ := kw
  have ho := Nat.eq_of_beq_eq_true ho
  simp only at ho hbn hmb hc hkw
  subst ho
  cases h
  rw [pN hr] at hb
  rw [lG hq] at hmb
  exact nc R h0 hS hX hp hb hbn hmb (Nat.eq_of_beq_eq_true hc) hkw
 ·rename_i c
  obtain ⟨callee, args, argTypes⟩ := c
  split at h
  ·rename_i x t hcal hargs hts
   simp only at hcal hargs hts
   subst hcal
   have hargs : args = #[x] := Array.toList_inj.1 hargs
   have hts : argTypes = #[t] := Array.toList_inj.1 hts
   subst hargs hts
   simp only [Option.bind_eq_bind, Option.bind_eq_some_iff, Option.some.injEq] at h
   obtain ⟨q, ht, X, hX, c, hc, es, hes, rfl⟩ := h
   exact oe K R h0 hS ht hX hc hes
  cases h
 cases h
theorem iq (K : TabOK P T) (R : ER m E e) {w0 : World} (h0 : S w0) (hS : ∀ w, S w → HR m Hp w) {op : Op} {V : V} (h : yop T E Hp op = some V) : Yh P m e S op V := by
 unfold yop at h
 split at h
 ·rename_i hp
  cases h
  exact (ko K R hp).yh
 exact ku K R h0 hS h
theorem lH (K : TabOK P T) (R : ER m E e) (I : Inv w0 lo m Hp w s) {x y : Operand} {t u el k by_ l : Nat} {z : L} {X Y : V} {xc yc c : C} {d : Nat} {Hp' : H} {s' : Nat} (ht : T.isSlice t = some el) (hk : T.size el = some k) (hb : T.bytes el = some by_) (hz : T.zero el = some z) (hzk : len z = k) (h0 : 0 < k) (hby : by_ < 1000000) (hX : aev E x = some X) (hxc : asC X = some xc) (hl : eL xc = some l) (hY : aev E y = some Y) (hyc : asC Y = some yc)
  (h : appd T lo Hp s t u el k by_ z xc l yc = some (c, Hp', s')) (hlt : Nat.blt d n = true) : Ef1 P w0 lo m e w s n (some d) (Ac x y t u) (cZ d (.c c) E) Hp' s' := by
 obtain ⟨xv, x1, x2⟩ := ay R hX
 obtain ⟨yv, y1, y2⟩ := ay R hY
 have hel := elt_of K ht hk hb hz hzk h0
 have cx := cU hxc x2
 have cy := cU hyc y2
 unfold appd at h
 split at h
 ·rename_i b
  simp only [Option.bind_eq_bind, Option.bind_eq_some_iff, gu_eq, Bool.and_eq_true] at h
  obtain ⟨un, hu, ik, hik, _, ⟨⟨⟨⟨hk8, hk1⟩, hb1⟩, hlj⟩, h0'⟩, u2, hz8, h⟩ := h
  have hk8 := of_decide_eq_true hk8
  have hk1 := Nat.eq_of_beq_eq_true hk1
  have hb1 := Nat.eq_of_beq_eq_true hb1
  subst hk8 hk1 hb1
  cases cy
  have hlj : l + b.length < 1000000 := by simpa [Nat.blt_eq] using hlj
  exact s9 K I R hel (z8_of K hik hz hz8) (K.str hu) x1 y1 cx hl hlj h hlt (by simpa [Nat.blt_eq] using h0')
 ·rename_i ik' j
  simp only [Option.bind_eq_bind, Option.bind_eq_some_iff, gu_eq, Bool.and_eq_true] at h
  obtain ⟨un, hu, ik, hik, _, ⟨⟨⟨⟨hk8, hk1⟩, hb1⟩, hlj⟩, hl0⟩, u2, hz8, h⟩ := h
  have hk8 := of_decide_eq_true hk8
  have hk1 := Nat.eq_of_beq_eq_true hk1
  have hb1 := Nat.eq_of_beq_eq_true hb1
  subst hk8 hk1 hb1
  cases cy
  have hlj : l + j < 1000000 := by simpa [Nat.blt_eq] using hlj
  have hl0 : 0 < l := by simpa [Nat.blt_eq] using hl0
  exact qT K I R hel (z8_of K hik hz hz8) (K.int hu) x1 y1 cx hl hlj h hlt hl0
 simp only [Option.bind_eq_bind, Option.bind_eq_some_iff, gu_eq] at h
 obtain ⟨_, htu, j, hj, _, hlj, ys, hys, h⟩ := h
 have htu := Nat.eq_of_beq_eq_true htu
 subst htu
 have hlj : l + j < 1000000 := by simpa [Nat.blt_eq] using hlj
 exact qU I R hel x1 y1 cx cy hl hj hys hlj hby h hlt
theorem qY (K : TabOK P T) {call : Nat → List V → Nat → H → Nat → R} (CO : fk P call) (R : ER m E e) (I : Inv w0 lo m Hp w s) (hls : lo ≤ s) {dst : Option Nat} {op : Op} {E' : AE} {Hp' : H} {s' : Nat} (h : eop T call n E lo Hp s dst op = some (E', Hp', s')) : Ef1 P w0 lo m e w s n dst op E' Hp' s' := by
 unfold eop at h
 split at h
 ·simp only [Option.bind_eq_bind, Option.bind_eq_some_iff] at h
  obtain ⟨z, hz, h⟩ := h
  exact mX K R I hz h
 ·simp only [Option.bind_eq_bind, Option.bind_eq_some_iff] at h
  obtain ⟨X, hX, wd, hw, h⟩ := h
  exact qO K R I hX hw h
 ·simp only [Option.bind_eq_bind, Option.bind_eq_some_iff, gu_eq, Bool.and_eq_true] at h
  obtain ⟨el, ht, k, hk, z, hz, _, ⟨⟨h1, h2⟩, h3⟩, l, hl, h⟩ := h
  exact qP K R I ht hk hz (Nat.eq_of_beq_eq_true h1) (by simpa [Nat.blt_eq] using h2) (by simpa [Nat.blt_eq] using h3) hl h
 ·simp only [Option.bind_eq_bind, Option.bind_eq_some_iff, gu_eq, Bool.and_eq_true] at h
  obtain ⟨el, ht, X, hX, l, hl, Y, hY, c, hc, k, hk, b, hb, z, hz, _, ⟨⟨⟨⟨h1, h2⟩, h3⟩, h4⟩, h5⟩, h⟩ := h
  exact qQ K R I ht hX hl hY hc hk hb hz (Nat.eq_of_beq_eq_true h1) (by simpa [Nat.blt_eq] using h2) (Nat.le_of_ble_eq_true h3) (by simpa [Nat.blt_eq] using h4) (by simpa [Nat.blt_eq] using h5) h
 ·split at h
  ·exact qR R I h
  cases h
 ·simp only [Option.bind_eq_bind, Option.bind_eq_some_iff] at h
  obtain ⟨q, ht, X, hX, id, hid, b, hb, p, hp, h⟩ := h
  obtain ⟨clock, es⟩ := p
  rw [lG hp] at hb
  exact ne K R I ht hX hid hb h
 ·rename_i x str
  simp only [Option.bind_eq_bind, Option.bind_eq_some_iff, gu_eq, Bool.and_eq_true, Bool.not_eq_true'] at h
  obtain ⟨_, hstr, X, hX, p, hp, _, ⟨ho, hlo⟩, b, hb, r, hr, mb, hmb, q, hq, _, hds, _, ⟨hold, hsl⟩, h⟩ := h
  obtain ⟨id, o⟩ := p
  obtain ⟨mid, since, seen, last⟩ := r
  obtain ⟨clock, es⟩ := q
  have ho := Nat.eq_of_beq_eq_true ho
  simp only at ho hlo hb hmb hold hsl h
  subst ho hstr
  rw [pN hr] at hb
  rw [lG hq] at hmb
  obtain ⟨d, rfl⟩ := Option.isSome_iff_exists.1 hds
  split at h
  ·rename_i hl
   simp only [Option.bind_eq_some_iff, Option.some.injEq, Prod.mk.injEq] at h
   obtain ⟨E2, hE, rfl, rfl, rfl⟩ := h
   rcases dx hE with ⟨d', hd, hlt, rfl⟩ | ⟨hd, _⟩
   ·cases hd
    exact (jE R I hX hp (Nat.le_of_ble_eq_true hlo) hb hmb hold (Nat.le_of_ble_eq_true hsl) hlt).1 hl
   cases hd
  ·rename_i kk wd bn hl
   simp only [Option.bind_eq_some_iff, Option.some.injEq, Prod.mk.injEq] at h
   obtain ⟨E2, hE, rfl, rfl, rfl⟩ := h
   rcases dx hE with ⟨d', hd, hlt, rfl⟩ | ⟨hd, _⟩
   ·cases hd
    exact (jE R I hX hp (Nat.le_of_ble_eq_true hlo) hb hmb hold (Nat.le_of_ble_eq_true hsl) hlt).2 kk wd bn hl
   cases hd
  cases h
 ·simp only [Option.bind_eq_bind, Option.bind_eq_some_iff, gu_eq, Option.some.injEq, Prod.mk.injEq] at h
  obtain ⟨_, hd, k, hk, X, hX, p, hp, Y, hY, wd, hw, _, hkl, Hp2, hwr, rfl, rfl, rfl⟩ := h
  have hd := Option.isNone_iff_eq_none.1 hd
  subst hd
  exact mY K R I hk hX hp hY hw (Nat.eq_of_beq_eq_true hkl) hwr
 ·simp only [Option.bind_eq_bind, Option.bind_eq_some_iff, gu_eq, Option.some.injEq, Prod.mk.injEq] at h
  obtain ⟨_, hd, q, ht, X, hX, id, hid, Kv, hK, kc, hkc, u, hkt, Y, hY, wd, hw, _, hlo, b, hb, p, hp, r, hr, rfl, rfl, rfl⟩ := h
  have hd := Option.isNone_iff_eq_none.1 hd
  subst hd
  exact qV K R I ht hX hid hK hkc hkt hY hw (Nat.le_of_ble_eq_true hlo) hb hp hr
 ·simp only [Option.bind_eq_bind, Option.bind_eq_some_iff, gu_eq] at h
  obtain ⟨un, hu, el, ht, k, hk, _, hk8, X, hX, b, hb, h⟩ := h
  have hk8 := of_decide_eq_true hk8
  subst hk8
  exact qS K R I hu ht hk hX hb h
 ·rename_i c
  obtain ⟨callee, args, argTypes⟩ := c
  split at h
  ·rename_i fo hcal
   simp only at hcal
   subst hcal
   simp only [Option.bind_eq_bind, Option.bind_eq_some_iff] at h
   obtain ⟨fv, hf, Vs, hV, h⟩ := h
   split at h
   ·rename_i f caps
    simp only [Option.bind_eq_some_iff, Option.some.injEq, Prod.mk.injEq] at h
    obtain ⟨q, hc, E2, hs, rfl, rfl, rfl⟩ := h
    exact ou CO R I hls hf hV hc hs
   cases h
  ·rename_i hcal
   simp only at hcal
   subst hcal
   split at h
   ·rename_i x y t u hargs hts
    simp only at hargs hts
    have hargs : args = #[x, y] := Array.toList_inj.1 hargs
    have hts : argTypes = #[t, u] := Array.toList_inj.1 hts
    subst hargs hts
    simp only [Option.bind_eq_bind, Option.bind_eq_some_iff, gu_eq, Bool.and_eq_true, Option.some.injEq, Prod.mk.injEq] at h
    obtain ⟨el, ht, k, hk, b, hb, z, hz, _, ⟨⟨h1, h2⟩, h3⟩, X, hX, xc, hxc, l, hl, Y, hY, yc, hyc, q, hq, d, rfl, _, hlt, rfl, rfl, rfl⟩ := h
    exact lH K R I ht hk hb hz (Nat.eq_of_beq_eq_true h1) (by simpa [Nat.blt_eq] using h2) (by simpa [Nat.blt_eq] using h3) hX hxc hl hY hyc hq hlt
   cases h
  ·rename_i hcal
   simp only at hcal
   subst hcal
   split at h
   ·rename_i x y t u hargs hts
    simp only at hargs hts
    have hargs : args = #[x, y] := Array.toList_inj.1 hargs
    have hts : argTypes = #[t, u] := Array.toList_inj.1 hts
    subst hargs hts
    simp only [Option.bind_eq_bind, Option.bind_eq_some_iff] at h
    obtain ⟨el, ht, k, hk, el', hu, X, hX, r, hr, Y, hY, yc, hyc, j, hj, ys, hys, h⟩ := h
    obtain ⟨xv, x1, x2⟩ := ay R hX
    obtain ⟨q, cp, g1, rfl, g2⟩ := nY hr x2
    obtain ⟨yv, y1, y2⟩ := ay R hY
    split at h
    ·rename_i hmin
     simp only [Option.bind_eq_some_iff, gu_eq, Option.some.injEq, Prod.mk.injEq] at h
     obtain ⟨d, rfl, _, hlt, rfl, rfl, rfl⟩ := h
     exact (jC I R (K.slice ht) (K.slice hu) (K.sz _ _ hk) x1 g1 y1 (cU hyc y2) hj hys hlt).1 hmin
    rename_i p hmin
    simp only [Option.bind_eq_some_iff, gu_eq, Option.some.injEq, Prod.mk.injEq] at h
    obtain ⟨Hp2, hw, d, rfl, _, hlt, rfl, rfl, rfl⟩ := h
    exact (jC I R (K.slice ht) (K.slice hu) (K.sz _ _ hk) x1 g1 y1 (cU hyc y2) hj hys hlt).2 p _ hmin hw
   cases h
  ·rename_i hcal
   simp only at hcal
   subst hcal
   split at h
   ·rename_i x k t ts hargs hts
    simp only at hargs hts
    have hargs : args = #[x, k] := Array.toList_inj.1 hargs
    have hts : argTypes = (t :: ts).toArray := Array.toList_inj.1 hts
    subst hargs hts
    simp only [Option.bind_eq_bind, Option.bind_eq_some_iff, gu_eq, Option.some.injEq, Prod.mk.injEq] at h
    obtain ⟨_, hd, q, ht, X, hX, id, hid, Kv, hK, kc, hkc, u, hkt, _, hlo, b, hb, p, hp, r, hr, rfl, rfl, rfl⟩ := h
    have hd := Option.isNone_iff_eq_none.1 hd
    subst hd
    exact qW K R I ht hX hid hK hkc hkt (Nat.le_of_ble_eq_true hlo) hb hp hr
   cases h
  cases h
 cases h
end
end Go.Gx.Rx
namespace Go.Gx.Rx
open Go.RowKit Go.Gx
def ad (a : Act) (ds : List Deferred) : Act := { a with defers := a.defers ++ ds }
theorem ir (a : Act) (ds : List Deferred) (d : Option Tmp) (v : Value) : ad (a.put d v) ds = (ad a ds).put d v := by cases d <;> rfl
theorem ad_fr {n : Nat} {a : Act} {ds : List Deferred} {e : Env} (F : Fr n a e) : FrD n ds (ad a ds) e := ⟨F.size, by simp [ad, F.defs], F.get⟩
theorem pQ {n : Nat} {a : Act} {ds : List Deferred} {e : Env} (F : FrD n ds a e) : ad { a with defers := [] } ds = a := by
 cases a
 have := F.defs
 simp only at this
 subst this
 rfl
section
variable {P : Program} {ops : Array Oper} {Q Q0 : Exit → Act → World → Prop} {n mm : Nat} {ro : Option Nat} {ds : List Deferred} {e : Env} {w : World}
theorem pR {o : Oper} {a : Act} {K K' : Act → World → Prop} (hnd : ∀ c, o.op ≠ .defer c) (hp : ∀ c a w, ¬ Q0 (.panic c) a w) (hg : ¬ LetsOut Q0) (hK : ∀ a w, K a w → K' (ad a ds) w) (h : o.wp P a w K Q0) : o.wpIn (FW ro) mm P (ad a ds) w K' Q := by
 refine ⟨fun f _ => jl ro f, ?_⟩
 rw [Oper.semAt_eq _ _ _ hnd]
 unfold Oper.wp at h
 have he : execOp (ad a ds).eval o = execOp a.eval o := rfl
 rw [he]
 revert h
 generalize (execOp a.eval o).run P w = r
 intro h
 cases r with
 | halt x w' => cases x <;> simp only [Oper.upon] at h <;> first | exact absurd h (hp _ _ _) | exact h.elim
 | ok nx w' =>
  cases nx with
  | value v =>
   have := hK _ _ h
   rw [ir] at this
   exact this
  | skip =>
   have := hK _ _ h
   rw [ir] at this
   exact this
  | enter f args =>
   refine ⟨fun hd => (by rw [tC] at hd; cases hd), mi (Calls.mono h fun ed w2 hed => ?_)⟩
   cases ed with
   | returned v =>
    have := hK _ _ hed
    rw [ir] at this
    exact this
   | panicked c => exact absurd hed (hp _ _ _)
   | outgrown => exact absurd hed hg
  | round l f t a b => simp only [Oper.upon] at h
  | defer d =>
   have := hK _ _ h
   rw [ir] at this
   exact this
  | row r args => exact ⟨fun hd => (by rw [tC] at hd; cases hd), oU (Rows.mono h fun u w2 hed => by
   have := hK _ _ hed
   rw [ir] at this
   exact this)⟩
  | _ => simp only [Oper.upon] at h
theorem noQF : ¬ LetsOut QF := fun ⟨_, _, h⟩ => h
theorem opx {o : Oper} {K : Env → World → Prop} (hnd : ∀ c, o.op ≠ .defer c) (h : OpE P n o e w QF K) {a : Act} (F : FrD n ds a e) : o.wpIn (FW ro) mm P a w (fun a' w' => ∃ e', FrD n ds a' e' ∧ K e' w') Q := by
 have h0 := (h _ F.bare).resolve_right (fun hh => noQF hh.2)
 have := pR (ds := ds) (ro := ro) (mm := mm) (Q := Q) (K' := fun a' w' => ∃ e', FrD n ds a' e' ∧ K e' w') hnd (fun _ _ _ h => h) noQF (fun a' w' ⟨e', F', hk⟩ => ⟨e', ad_fr F', hk⟩) h0
 rwa [pQ F] at this
def WLX (P : Program) (ops : Array Oper) (Q : Exit → Act → World → Prop) (n mm : Nat) (ro : Option Nat) (ds : List Deferred) (l : List Oper) (e : Env) (w : World) : Prop := ∀ a, FrD n ds a e → wpListIn (FW ro) mm P ops Q l a w
def WX (P : Program) (Q : Exit → Act → World → Prop) (n mm : Nat) (ro : Option Nat) (ds : List Deferred) (c : Code) (e : Env) (w : World) : Prop := ∀ a, FrD n ds a e → c.wpIn (FW ro) mm P Q a w
def WQX (Q : Exit → Act → World → Prop) (n : Nat) (ds : List Deferred) (x : Exit) (e : Env) (w : World) : Prop := ∀ a, FrD n ds a e → Q x a w
theorem wlx_nil (h : WQX Q n ds .normal e w) : WLX P ops Q n mm ro ds [] e w := fun a F => h a F
theorem tb {o : Oper} {rest : List Oper} {K : Env → World → Prop} (hnd : ∀ c, o.op ≠ .defer c) (hg : ∀ a, Fr n a e → Region.wanted o (yielded ops a.tmps) = true) (h : OpE P n o e w QF K) (k : ∀ e' w', K e' w' → WLX P ops Q n mm ro ds rest e' w') : WLX P ops Q n mm ro ds (o :: rest) e w := by
 intro a F
 unfold wpListIn
 rw [if_pos (hg _ F.bare)]
 exact Oper.wpIn_mono (fun a' w' ⟨e', F', hk⟩ => k e' w' hk a' F') (opx hnd h F)
theorem qZ {id : Nat} {ops : Array Oper} (h : WLX P ops Q n mm ro ds ops.toList e w) : WX P Q n mm ro ds (.region id ops false) e w := fun a F => by
 have := wpIn_region_lit (id := id) (h a F)
 exact this
theorem fl (hnd : ∀ (i : Nat) (o : Oper), ops[i]? = some o → ∀ c, o.op ≠ .defer c) (hp : ∀ c a w, ¬ Q0 (.panic c) a w) (hg : ¬ LetsOut Q0) (hQ : ∀ a w, Q0 .normal a w → Q .normal (ad a ds) w) {md : Region.Mode} :
  ∀ (k : Nat) (listed : Array Bool) (a : Act) (w : World), wpAny P md ops Q0 k listed a w → wpAnyIn (FW ro) mm P md ops Q k listed (ad a ds) w
 | 0, _, _, _, h => ⟨h.1, hQ _ _ h.2⟩
 | k + 1, listed, a, w, h => ⟨fun hr => hQ _ _ (h.1 hr), fun i hi => by
  have h2 := h.2 i hi
  unfold wpOp at h2
  unfold wpOpIn
  cases ho : ops[i]? with
  | none =>
   simp only [ho] at h2 ⊢
   exact fl hnd hp hg hQ k _ a w h2
  | some o =>
   simp only [ho] at h2 ⊢
   have hy : yielded ops (ad a ds).tmps = yielded ops a.tmps := rfl
   rw [hy]
   by_cases hw : Region.wanted o (yielded ops a.tmps) = true
   ·rw [if_pos hw] at h2 ⊢
    rcases h2 with h2 | h2
    ·exact pR (hnd i o ho) hp hg (fun a' w' h3 => fl hnd hp hg hQ k _ a' w' h3) h2
    exact absurd h2.2 hg
   rw [if_neg hw] at h2 ⊢
   refine ⟨fun f _ => jl ro f, ?_⟩
   rw [← ir]
   exact fl hnd hp hg hQ k _ _ w h2⟩
end
/-! ### Plain regions -/
section
variable {P : Program} {T : Tab} {ops : Array Oper} {Q : Exit → Act → World → Prop} {n mm : Nat} {ro : Option Nat} {ds : List Deferred} {w0 : World} {lo : Nat}
theorem gL {m : M} {E : AE} {e : Env} (R : ER m E e) {o : Oper} {b : Bool} (h : iV n ops E o.guard = some b) : ∀ a, Fr n a e → Region.wanted o (yielded ops a.tmps) = b := by
 unfold iV at h
 split at h
 ·rename_i hg
  cases h
  exact fun a F => by simp [Region.wanted, hg]
 rename_i j want hg
 simp only [Option.bind_eq_bind, Option.bind_eq_some_iff, gu_eq] at h
 obtain ⟨oj, hoj, d, hd, _, hlt, V, hV, h⟩ := h
 obtain ⟨v, h1, h2⟩ := R.get d V hV
 split at h
 ·cases h
  cases h2
  exact gd_ hg hoj hd hlt h1 rfl
 ·cases h
  cases h2
  exact gd_ hg hoj hd hlt h1 rfl
 cases h
theorem yop_eff (K : TabOK P T) {m : M} {E E' : AE} {e : Env} {Hp : H} {w : World} {s : Nat} (R : ER m E e) (I : Inv w0 lo m Hp w s) {o : Oper} {V : V} (h : yop T E Hp o.op = some V) (hd : o.dst.isSome = true) (hs : sto n o.dst V E = some E') : OpE P n o e w QF (Kx w0 lo m s E' Hp s) := by
 obtain ⟨v, h1, h2⟩ := iq (S := fun w' => w' = w) K R rfl (fun w' hw => by rw [hw]; exact I.hr) h
 obtain ⟨d, hd⟩ := Option.isSome_iff_exists.1 hd
 rcases dx hs with ⟨d', hd', hlt, rfl⟩ | ⟨hd', _⟩
 ·rw [hd] at hd'; cases hd'
  obtain ⟨dst, op, rt, pos, af, gd⟩ := o
  simp only at hd
  subst hd
  exact bl rfl hlt (fun a F => h2 n _ rt pos af gd a F w rfl) (iW I R h1)
 rw [hd] at hd'; cases hd'
def YldOK (P : Program) (yld : Nat → List V → Nat → H → Nat → R) : Prop := ∀ id vs lo Hp s V Hp' s', yld id vs lo Hp s = some (V, Hp', s') → ∀ (m : M) (w w0 : World) (args : List Value) (q : Nat × Nat) (k : Nat), lo ≤ s → (∀ g, Nat.blt g 4 = true → m g = some (g, 0)) → Inv w0 lo m Hp w s → vvs m vs = some args → m id = some q → YieldAt Fence.wide k P q.1 args.toArray w (Cr w0 lo m s V Hp' s')
theorem nd_yop {E : AE} {Hp : H} {op : Op} {V : V} (h : yop T E Hp op = some V) : ∀ c, op ≠ .defer c := fun c hc => by subst hc; cases h
theorem nd_eop {call : Nat → List V → Nat → H → Nat → R} {E : AE} {Hp : H} {s : Nat} {dst : Option Nat} {op : Op} {x : AE × H × Nat} (h : eop T call n E lo Hp s dst op = some x) : ∀ c, op ≠ .defer c := fun c hc => by subst hc; cases h
theorem lI (K : TabOK P T) {call : Nat → List V → Nat → H → Nat → R} (CO : fk P call) {m : M} {E E' : AE} {e : Env} {Hp Hp' : H} {w : World} {s s' : Nat} (R : ER m E e) (I : Inv w0 lo m Hp w s) (hls : lo ≤ s) {o : Oper} (h : eop T call n E lo Hp s o.dst o.op = some (E', Hp', s')) : OpE P n o e w QF (Kx w0 lo m s E' Hp' s') := by
 obtain ⟨dst, op, rt, pos, af, gd⟩ := o
 exact qY K CO R I hls h rt pos af gd
theorem iJ (K : TabOK P T) {call yld : Nat → List V → Nat → H → Nat → R} (CO : fk P call) (YO : ro = none → YldOK P yld) (YN : ro ≠ none → ∀ a b c d e, yld a b c d e = none) : ∀ (l : List Oper) {m : M} {E E' : AE} {e : Env} {Hp Hp' : H} {w : World} {s s' : Nat}, jz T call yld n ops lo l E Hp s = some (E', Hp', s') → lo ≤ s → ER m E e → Inv w0 lo m Hp w s →
  (∀ m' e' w', Aft w0 lo m s m' Hp' w' s' → ER m' E' e' → WQX Q n ds .normal e' w') → WLX P ops Q n mm ro ds l e w
 | [], m, E, E', e, Hp, Hp', w, s, s', h, hls, R, I, k => by
  simp only [jz, Option.some.injEq, Prod.mk.injEq] at h
  obtain ⟨rfl, rfl, rfl⟩ := h
  exact wlx_nil (k m e w (Aft.refl I) R)
 | o :: r, m, E, E', e, Hp, Hp', w, s, s', h, hls, R, I, k => by
  simp only [jz, Option.bind_eq_bind, Option.bind_eq_some_iff] at h
  obtain ⟨⟨E1, H1, s1⟩, h1, h⟩ := h
  simp only at h
  have go : ∀ m1 e1 w1, Aft w0 lo m s m1 H1 w1 s1 → ER m1 E1 e1 → WLX P ops Q n mm ro ds r e1 w1 := fun m1 e1 w1 A R1 =>
   iJ K CO YO YN r h (Nat.le_trans hls A.le) R1 A.inv (fun m' e' w' A' R' => k m' e' w' (A.trans A') R')
  simp only [step_, Option.bind_eq_bind, Option.bind_eq_some_iff] at h1
  obtain ⟨b, hb, h1⟩ := h1
  have hg := gL R hb
  cases b with
  | false =>
   simp only [Option.bind_eq_some_iff, Option.some.injEq, Prod.mk.injEq] at h1
   obtain ⟨E2, hE, rfl, rfl, rfl⟩ := h1
   rcases dx hE with ⟨d, hd, hlt, rfl⟩ | ⟨hd, rfl⟩
   ·intro a F
    unfold wpListIn
    rw [if_neg (by rw [hg _ F.bare]; decide), hd]
    exact ⟨fun f _ => jl ro f, go m _ w (Aft.refl I) (R.put d rfl) _ (F.put hlt undef)⟩
   intro a F
   unfold wpListIn
   rw [if_neg (by rw [hg _ F.bare]; decide), hd]
   exact ⟨fun f _ => jl ro f, go m _ w (Aft.refl I) R _ F⟩
  | true =>
   simp only at h1
   split at h1
   ·rename_i id args hy
    simp only [Option.bind_eq_some_iff, gu_eq, Option.some.injEq, Prod.mk.injEq] at h1
    obtain ⟨Vs, hV, ⟨V, H2, s2⟩, hyl, _, hds, E2, hE, rfl, rfl, rfl⟩ := h1
    have hro : ro = none := by
     cases ro with
     | none => rfl
     | some l => rw [YN (by simp)] at hyl; cases hyl
    subst hro
    obtain ⟨dst, op, rt, pos, af, gd⟩ := o
    unfold yofs at hy
    simp only at hy hE hds hg
    split at hy
    ·rename_i c
     obtain ⟨callee, cargs, ts⟩ := c
     simp only at hy
     split at hy
     ·rename_i fo
      split at hy
      ·rename_i id' hf
       cases hy
       obtain ⟨fv, f1, f2⟩ := ay R hf
       simp only [vv, cv, Option.bind_eq_bind, Option.bind_eq_some_iff, Option.some.injEq] at f2
       obtain ⟨q, f3, rfl⟩ := f2
       obtain ⟨vs, v1, v2⟩ := eC R hV
       obtain ⟨d, rfl⟩ := Option.isSome_iff_exists.1 hds
       rcases dx hE with ⟨d', hd', hlt, rfl⟩ | ⟨hd', _⟩
       ·cases hd'
        obtain ⟨fn, tmps, assign, body, hrun, hR⟩ := YO rfl _ _ _ _ _ _ _ _ hyl m w w0 vs q (mm - 1) hls R.gl I v2 f3
        intro a F
        unfold wpListIn
        rw [if_pos (hg _ F.bare)]
        refine ⟨fun f _ => jl none f, ?_⟩
        rw [Oper.semAt_eq _ _ _ (by intro c h; cases h)]
        have hargs : cargs.map a.eval = vs.toArray := by
         apply Array.toList_inj.1
         have := F.bare.evs v1
         rw [Array.toList_map]
         exact this
        have he : (execOp a.eval ⟨some d, .call { callee := .value fo, args := cargs, argTypes := ts }, rt, pos, af, gd⟩).run P w = .ok (.round q.1 fn tmps assign body) w := by
         have hev : a.eval fo = .func (.yield q.1) #[] #[] := F.bare.ev f1
         simp [execOp, resolve, invoke, Deferred.ofValue, hev, hargs, hrun]
        rw [he]
        refine ⟨fun hd => (by rw [tC] at hd; cases hd), hR.mono fun ed w' hed => ?_⟩
        obtain ⟨m', v, rfl, A, hvv⟩ := hed
        exact go m' _ w' A ((R.le (I.le A.ext)).put d hvv) _ (F.put hlt v)
       cases hd'
      cases hy
     cases hy
    cases hy
   split at h1
   ·rename_i V hy
    simp only [Option.bind_eq_some_iff, gu_eq, Option.some.injEq, Prod.mk.injEq] at h1
    obtain ⟨_, hds, E2, hE, rfl, rfl, rfl⟩ := h1
    exact tb (nd_yop hy) hg (yop_eff K R I hy hds hE) (fun e' w' ⟨m', A, R'⟩ => go m' e' w' A R')
   exact tb (nd_eop h1) hg (lI K CO R I hls h1) (fun e' w' ⟨m', A, R'⟩ => go m' e' w' A R')
end
end Go.Gx.Rx
namespace Go.Gx.Rx
open Go.RowKit Go.Gx
/-! ### Equal, as far as the evaluator looks -/
theorem kx : ∀ {a b : List Nat}, lh a b = true → a = b
 | [], [], _ => rfl
 | x :: r, y :: t, h => by
  simp only [lh, Bool.and_eq_true] at h
  rw [Nat.eq_of_beq_eq_true h.1, kx h.2]
theorem ky : ∀ {a b : List (Nat × Nat)}, li a b = true → a = b
 | [], [], _ => rfl
 | (x, y) :: r, (x', y') :: t, h => by
  simp only [li, Bool.and_eq_true] at h
  rw [Nat.eq_of_beq_eq_true h.1.1, Nat.eq_of_beq_eq_true h.1.2, ky h.2]
theorem iX {c d : C} (h : qH c d = true) : c = d := by
 cases c <;> cases d <;> simp only [qH, Bool.and_eq_true, decide_eq_true_eq, beq_iff_eq] at h <;> first
  | rfl
  | (subst h; rfl)
  | (obtain ⟨rfl, rfl⟩ := h; rfl)
  | (rw [Nat.eq_of_beq_eq_true h.1, Nat.eq_of_beq_eq_true h.2])
  | (rw [Nat.eq_of_beq_eq_true h.1.1.1, Nat.eq_of_beq_eq_true h.1.1.2, Nat.eq_of_beq_eq_true h.1.2, Nat.eq_of_beq_eq_true h.2])
  | (rw [Nat.eq_of_beq_eq_true h])
  | (rw [Nat.eq_of_beq_eq_true h.1, ky h.2])
  | cases h
theorem eF : ∀ {a b : L}, lj a b = true → a = b
 | [], [], _ => rfl
 | (n, c) :: r, (k, d) :: t, h => by
  simp only [lj, Bool.and_eq_true] at h
  rw [Nat.eq_of_beq_eq_true h.1.1, iX h.1.2, eF h.2]
theorem pS {a b : W} (h : weqF a b = true) : a = b := by
 cases a <;> cases b <;> simp only [weqF] at h
 ·rw [iX h]
 ·cases h
 ·cases h
 rw [eF h]
theorem ni : ∀ {a b : List W}, pC a b = true → a = b
 | [], [], _ => rfl
 | x :: r, y :: t, h => by
  simp only [pC, Bool.and_eq_true] at h
  rw [pS h.1, ni h.2]
theorem veqF_eq {a b : V} (h : veqF a b = true) : a = b := by
 cases a <;> cases b <;> simp only [veqF] at h <;> first
  | rw [iX h]
  | rw [eF h]
  | rw [ni h]
  | cases h
theorem pT : ∀ {a b : ME}, meqF a b = true → a = b
 | [], [], _ => rfl
 | (k, w, n) :: r, (k', w', n') :: t, h => by
  simp only [meqF, Bool.and_eq_true] at h
  rw [iX h.1.1.1, pS h.1.1.2, Nat.eq_of_beq_eq_true h.1.2, pT h.2]
theorem beqB_eq {a b : B} (h : sS a b = true) : a = b := by
 cases a <;> cases b <;> simp only [sS, Bool.and_eq_true] at h <;> first
  | rfl
  | rw [Nat.eq_of_beq_eq_true h.1, eF h.2]
  | rw [eF h]
  | rw [Nat.eq_of_beq_eq_true h.1.1.1, Nat.eq_of_beq_eq_true h.1.1.2, Nat.eq_of_beq_eq_true h.1.2, eF h.2]
  | rw [Nat.eq_of_beq_eq_true h.1, pT h.2]
  | rw [Nat.eq_of_beq_eq_true h.1.1.1, Nat.eq_of_beq_eq_true h.1.1.2, kx h.1.2, Nat.eq_of_beq_eq_true h.2]
  | cases h
theorem pU : ∀ {E1 E2 : AE} {t : Nat} {V : V}, qI E1 E2 = true → dz t E1 = some V → dz t E2 = some V
 | [], E2, t, V, _, h => by simp [dz] at h
 | (k, U) :: r, E2, t, V, hs, h => by
  simp only [qI, Bool.and_eq_true] at hs
  obtain ⟨h1, h2⟩ := hs
  simp only [dz] at h
  split at h
  ·rename_i hk
   have hk := Nat.eq_of_beq_eq_true hk
   subst hk
   cases h
   split at h1
   ·rename_i U' hU
    rw [hU, veqF_eq h1]
   cases h1
  exact pU h2 h
theorem iY : ∀ {d : Nat} {H1 H2 : H} {k : Nat} {b : B}, nT d H1 H2 = true → Tr.get d H1 k = some b → Tr.get d H2 k = some b
 | 0, H1, H2, k, b, _, h => by simp [Tr.get] at h
 | d + 1, .nil, H2, k, b, _, h => by simp [Tr.get] at h
 | d + 1, .nd l x r, .nil, k, b, hs, _ => by simp [nT] at hs
 | d + 1, .nd l x r, .nd l' x' r', k, b, hs, h => by
  simp only [nT, Bool.and_eq_true] at hs
  obtain ⟨⟨h1, h2⟩, h3⟩ := hs
  simp only [Tr.get] at h ⊢
  split at h
  ·subst h
   cases x' with
   | none => simp at h1
   | some b' => simp only at h1 ⊢; rw [beqB_eq h1]
  split at h
  ·exact iY h2 h
  exact iY h3 h
section
variable {w0 w w' : World} {lo s : Nat} {m : M} {Hp H1 H2 : H} {E E1 E2 : AE} {e : Env}
theorem ER.sub (R : ER m E2 e) (h : qI E1 E2 = true) : ER m E1 e := ⟨R.gl, fun t V hV => R.get t V (pU h hV)⟩
theorem Inv.sub (I : Inv w0 lo m H2 w s) (h : ∀ id b, bF H1 id = some b → bF H2 id = some b) : Inv w0 lo m H1 w s :=
 ⟨I.ch, I.fre, I.lt, I.own, fun id b hb => I.live id b (h id b hb), fun id id' b b' q q' h1 h2 => I.inj id id' b b' q q' (h _ _ h1) (h _ _ h2)⟩
theorem Inv.up (I : Inv w0 lo m Hp w s) {s' : Nat} (h : s ≤ s') : Inv w0 lo m Hp w s' := ⟨I.ch, fun id hi => I.fre id (by omega), I.lt, I.own, I.live, I.inj⟩
theorem Inv.newAt (I : Inv w0 lo m Hp w s) {id : Nat} {q : Nat × Nat} {b : B} (hn : m id = none) (his : id < s) (hg : w.heap.size ≤ q.1) (hg' : q.1 < w'.heap.size) (c : Ch No w w') (hb : BR (m.add id q) q.1 q.2 w' b) : Inv w0 lo (m.add id q) (cw Hp id b) w' s := by
 refine ⟨I.ch.tr c, fun j h => ?_, fun j r h => ?_, fun j r h1 h2 => ?_, fun j b' h => ?_, fun j j' b1 b2 r r' h1 h2 h3 h4 h5 => ?_⟩
 ·rw [M.add_ne m q (by omega)]; exact I.fre j h
 ·by_cases hs : j = id
  ·subst hs; rw [M.add_self] at h; cases h; exact hg'
  rw [M.add_ne m q hs] at h; exact Nat.lt_of_lt_of_le (I.lt j r h) c.size
 ·by_cases hs : j = id
  ·subst hs; rw [M.add_self] at h2; cases h2; exact Nat.le_trans I.ch.size hg
  rw [M.add_ne m q hs] at h2; exact I.own j r h1 h2
 ·rcases Tr.get_set _ _ _ _ _ _ h with ⟨rfl, rfl⟩ | ⟨hne, h⟩
  ·exact ⟨q, M.add_self _ _ _, hb⟩
  obtain ⟨r, h1, h2⟩ := I.live j b' h
  exact ⟨r, by rw [M.add_ne m q hne]; exact h1, (h2.le (M.add_le m q hn)).ch c (fun h => h)⟩
 rcases Tr.get_set _ _ _ _ _ _ h1 with ⟨rfl, rfl⟩ | ⟨hne, h1⟩
 ·rcases Tr.get_set _ _ _ _ _ _ h2 with ⟨rfl, rfl⟩ | ⟨hne', h2⟩
  ·rfl
  rw [M.add_self] at h3; cases h3
  rw [M.add_ne m _ hne'] at h4
  have := I.lt _ _ h4; omega
 rcases Tr.get_set _ _ _ _ _ _ h2 with ⟨rfl, rfl⟩ | ⟨hne', h2⟩
 ·rw [M.add_self] at h4; cases h4
  rw [M.add_ne m _ hne] at h3
  have := I.lt _ _ h3; omega
 rw [M.add_ne m q hne] at h3
 rw [M.add_ne m q hne'] at h4
 exact I.inj j j' b1 b2 r r' h1 h2 h3 h4 h5
end
section
variable {P : Program} {T : Tab} {ops : Array Oper} {Q : Exit → Act → World → Prop} {n : Nat} {w0 : World} {lo : Nat}
theorem wp_q {o : Oper} {a : Act} {w : World} {K K' : Act → World → Prop} (hK : ∀ a w, K a w → K' a w) (h : o.wp P a w K QF) : o.wp P a w K' Q := by
 unfold Oper.wp at h ⊢
 revert h
 generalize (execOp a.eval o).run P w = r
 intro h
 cases r with
 | halt x w' => cases x <;> first | exact (h : False).elim | simp only [Oper.upon] at h
 | ok nx w' =>
  cases nx with
  | value v => exact hK _ _ h
  | skip => exact hK _ _ h
  | enter f args =>
   refine Calls.mono h fun ed w2 hed => ?_
   cases ed with
   | returned v => exact hK _ _ hed
   | panicked c => exact hed.elim
   | outgrown => exact absurd hed noQF
  | round l f t a b => simp only [Oper.upon] at h
  | defer d => exact hK _ _ h
  | row r args => exact Rows.mono h fun u w2 hed => hK _ _ hed
  | _ => simp only [Oper.upon] at h
theorem OpE.to {o : Oper} {e : Env} {w : World} {K K' : Env → World → Prop} (h : OpE P n o e w QF K) (hk : ∀ e' w', K e' w' → K' e' w') : OpE P n o e w Q K' := fun a F => by
 rcases h a F with h | h
 ·exact .inl (wp_q (fun a' w' ⟨e', F', hK⟩ => ⟨e', F', hk e' w' hK⟩) h)
 exact absurd h.2 noQF
theorem ov (K : TabOK P T) {call : Nat → List V → Nat → H → Nat → R} (CO : fk P call) {s0 : Nat} (hl0 : lo ≤ s0) : ∀ (t : OT) (af : Bool) (rid : Nat) {m : M} {E E' : AE} {e : Env} {Hp Hp' : H} {w : World} {s s' : Nat} {S : World → Prop}, di T call n ops lo t af rid E Hp s = some (E', Hp', s') → s0 ≤ s → (rid < s → m rid = none ∧ s0 ≤ rid) → ER m E e → Inv w0 lo m Hp w s → (af = false → ∀ x, Ch No w x → S x) →
  (∀ m' e' w', s0 ≤ s' → Ext s0 m m' → ER m' E' e' → Inv w0 lo m' Hp' w' s' → WQ Q n .normal e' w') → WS P ops Q S n t e w := by
 intro t
 induction t with
 | nil =>
  intro af rid m E E' e Hp Hp' w s s' S h hs hr R I hS k
  simp only [di, Option.some.injEq, Prod.mk.injEq] at h
  obtain ⟨rfl, rfl, rfl⟩ := h
  exact aW (k m e w hs Ext.refl R I)
 | st i p r ih =>
  intro af rid m E E' e Hp Hp' w s s' S h hs hr R I hS k
  simp only [di, Option.bind_eq_bind, Option.bind_eq_some_iff] at h
  obtain ⟨o, ho, b, hb, h⟩ := h
  have hg := gL R hb
  cases b with
  | false =>
   simp only [Option.bind_eq_some_iff] at h
   obtain ⟨E2, hE, h⟩ := h
   rcases dx hE with ⟨d, hd, hlt, rfl⟩ | ⟨hd, rfl⟩
   ·exact dy ho hg hd hlt (ih af rid h hs hr (R.put d rfl) I hS k)
   exact ws_s0 ho hg hd (ih af rid h hs hr R I hS k)
  | true =>
   simp only at h
   rcases p with _ | _ | _ | _ | p
   ·simp only [Option.bind_eq_some_iff, gu_eq] at h
    obtain ⟨V, hV, _, hds, E2, hE, h⟩ := h
    obtain ⟨v, h1, h2⟩ := ko K R hV
    obtain ⟨d, hd⟩ := Option.isSome_iff_exists.1 hds
    rcases dx hE with ⟨d', hd', hlt, rfl⟩ | ⟨hd', _⟩
    ·rw [hd] at hd'; cases hd'
     have kk := ih af rid h hs hr (R.put d h1) I hS k
     clear h
     obtain ⟨dst, op, rt, pos, af', gd⟩ := o
     exact aL ho hg hd hlt (h2 _ _ dst rt pos af' gd) kk
    rw [hd] at hd'; cases hd'
   ·simp only [Option.bind_eq_some_iff, gu_eq, Bool.not_eq_true'] at h
    obtain ⟨_, haf, V, hV, _, hds, E2, hE, h⟩ := h
    obtain ⟨v, h1, h2⟩ := ku (S := fun x => Ch No w x) K R (Ch.refl _ _) (fun x hx => I.hr.no hx) hV
    obtain ⟨d, hd⟩ := Option.isSome_iff_exists.1 hds
    rcases dx hE with ⟨d', hd', hlt, rfl⟩ | ⟨hd', _⟩
    ·rw [hd] at hd'; cases hd'
     have kk := ih af rid (S := fun x => Ch No w x) h hs hr (R.put d h1) I (fun _ x hx => hx) k
     clear h
     obtain ⟨dst, op, rt, pos, af', gd⟩ := o
     exact gU (S' := fun x => Ch No w x) (Ch.refl _ _) (hS haf) (cR ho hg hd hlt (h2 _ dst rt pos af' gd) kk)
    rw [hd] at hd'; cases hd'
   ·simp only [Option.bind_eq_some_iff, gu_eq, Bool.not_eq_true'] at h
    obtain ⟨_, haf, h⟩ := h
    refine gU (S' := fun x => Ch No w x) (Ch.refl _ _) (hS haf) ?_
    split at h
    ·rename_i E2 H2 hrs
     unfold rsv at hrs
     split at hrs
     ·rename_i hlt
      have hlt : rid < s := by simpa [Nat.blt_eq] using hlt
      obtain ⟨hn, hs0⟩ := hr hlt
      split at hrs
      ·rename_i t hop
       simp only [Option.bind_eq_bind, Option.bind_eq_some_iff, gu_eq, Option.some.injEq, Prod.mk.injEq] at hrs
       obtain ⟨z, hz, d, hd, _, hdlt, rfl, rfl⟩ := hrs
       obtain ⟨v, vs, z1, z2, z3⟩ := K.zr _ _ hz
       have hle : ∀ g, Le m (m.add rid (g, 0)) := fun g => M.add_le _ _ hn
       have kk : ∀ w' g, g = w.heap.size → Blk w' g t vs.toArray → Ch No w w' → w'.heap.size = g + 1 → WS P ops Q (fun x => Ch No w x) n r ((d, .pointer (some ⟨g, 0, none⟩)) :: e) w' := fun w' g hg' hb c hsz =>
        ih af s h hs (fun hh => absurd hh (Nat.lt_irrefl _)) ((R.le (hle g)).put d (V := .c (.p rid 0)) (lA (q := (g, 0)) (M.add_self m rid (g, 0)))) (I.newAt (id := rid) (q := (g, 0)) (b := .cs t z) hn hlt (by simp [hg']) (by simp [hsz]) c ⟨vs, z3 _, hb⟩) (fun _ x hx => c.tr hx) (fun m' e' w2 h1 h2 h3 h4 => k m' e' w2 h1 (fun id hi => (h2 id hi).trans (M.add_ne m _ (by omega))) h3 h4)
       clear h
       obtain ⟨dst, op, rt, pos, af', gd⟩ := o
       simp only at hop hd
       subst hop hd
       exact ma ho hg (bz hdlt z1 z2 (fun w' g hg' hb c hsz => ⟨c, kk w' g hg' hb c hsz⟩))
      cases hrs
     cases hrs
    split at h
    ·rename_i V hy
     simp only [Option.bind_eq_some_iff, gu_eq] at h
     obtain ⟨_, hds, E2, hE, h⟩ := h
     obtain ⟨v, h1, h2⟩ := iq (S := fun x => x = w) K R rfl (fun x hx => by rw [hx]; exact I.hr) hy
     obtain ⟨d, hd⟩ := Option.isSome_iff_exists.1 hds
     rcases dx hE with ⟨d', hd', hlt, rfl⟩ | ⟨hd', _⟩
     ·rw [hd] at hd'; cases hd'
      have kk := ih af rid (S := fun x => Ch No w x) h hs hr (R.put d h1) I (fun _ x hx => hx) k
      clear h hy
      obtain ⟨dst, op, rt, pos, af', gd⟩ := o
      simp only at hd
      subst hd
      exact ma ho hg (bl rfl hlt (fun a F => h2 n _ rt pos af' gd a F w rfl) ⟨Ch.refl _ _, kk⟩)
     rw [hd] at hd'; cases hd'
    simp only [Option.bind_eq_some_iff] at h
    obtain ⟨⟨E2, H2, s2⟩, he, h⟩ := h
    refine ma ho hg (OpE.to (lI (w0 := w) (lo := s) K CO R I.now (Nat.le_refl _) he) (fun e' w' ⟨m', A, R'⟩ => ⟨A.inv.ch, ?_⟩))
    have A2 := I.back A
    refine ih af _ h (Nat.le_trans hs A.le) ?_ R' A2.inv (fun _ x hx => A.inv.ch.tr hx) (fun m2 e2 w2 h1 h2 h3 h4 => k m2 e2 w2 h1 (fun id hi => (h2 id hi).trans (A.ext id (by omega))) h3 h4)
    intro hh
    cases hb : Nat.blt rid s with
    | true =>
     have hlt : rid < s := by simpa [Nat.blt_eq] using hb
     obtain ⟨hn, hs0⟩ := hr hlt
     exact ⟨(A.ext rid hlt).trans hn, hs0⟩
    | false =>
     rw [hb] at hh
     exact absurd hh (Nat.lt_irrefl _)
   ·replace h : (match yop T E Hp o.op with
     | some v => (gu o.dst.isSome).bind fun _ => (sto n o.dst v E).bind fun E => di T call n ops lo r true rid E Hp s
     | none => (eop T call n E lo Hp s o.dst o.op).bind fun x => di T call n ops lo r true x.2.2 x.1 x.2.1 x.2.2) = some (E', Hp', s') := h
    split at h
    ·rename_i V hy
     simp only [Option.bind_eq_some_iff, gu_eq] at h
     obtain ⟨_, hds, E2, hE, h⟩ := h
     obtain ⟨v, h1, h2⟩ := iq (S := fun x => x = w) K R rfl (fun x hx => by rw [hx]; exact I.hr) hy
     obtain ⟨d, hd⟩ := Option.isSome_iff_exists.1 hds
     rcases dx hE with ⟨d', hd', hlt, rfl⟩ | ⟨hd', _⟩
     ·rw [hd] at hd'; cases hd'
      have kk := ih true rid (S := S) h hs hr (R.put d h1) I (fun hh => by cases hh) k
      clear h hy
      obtain ⟨dst, op, rt, pos, af', gd⟩ := o
      simp only at hd
      subst hd
      exact ws_lg ho hg (bl rfl hlt (fun a F => h2 n _ rt pos af' gd a F w rfl) kk)
     rw [hd] at hd'; cases hd'
    simp only [Option.bind_eq_some_iff] at h
    obtain ⟨⟨E2, H2, s2⟩, he, h⟩ := h
    refine ws_lg ho hg (OpE.to (lI K CO R I (Nat.le_trans hl0 hs) he) (fun e' w' ⟨m', A, R'⟩ => ?_))
    exact ih true _ h (Nat.le_trans hs A.le) (fun hh => absurd hh (Nat.lt_irrefl _)) R' A.inv (fun hh => by cases hh) (fun m2 e2 w2 h1 h2 h3 h4 => k m2 e2 w2 h1 (fun id hi => (h2 id hi).trans (A.ext id (by omega))) h3 h4)
   simp at h
 | alt x y ih1 ih2 =>
  intro af rid m E E' e Hp Hp' w s s' S h hs hr R I hS k
  simp only [di, Option.bind_eq_bind, Option.bind_eq_some_iff, gu_eq, Bool.and_eq_true, Option.some.injEq, Prod.mk.injEq] at h
  obtain ⟨⟨Ea, Ha, sa⟩, h1, ⟨Eb, Hb, sb⟩, h2, _, ⟨hE, hH⟩, rfl, rfl, rfl⟩ := h
  have hn : m s = none := I.fre s (Nat.le_refl _)
  have hsa : sa ≤ (match Nat.ble sa sb with | true => sb | false => sa) := by
   cases hb : Nat.ble sa sb with
   | true => exact Nat.le_of_ble_eq_true hb
   | false => exact Nat.le_refl _
  have hsb : sb ≤ (match Nat.ble sa sb with | true => sb | false => sa) := by
   cases hb : Nat.ble sa sb with
   | true => exact Nat.le_refl _
   | false =>
    have : ¬ sa ≤ sb := fun h => by rw [Nat.ble_eq_true_of_le h] at hb; cases hb
    simp only; omega
  refine bh ?_ ?_
  ·exact ih1 af s h1 (by omega) (fun _ => ⟨hn, hs⟩) R (I.up (by omega)) hS (fun m' e' w' g1 g2 g3 g4 => k m' e' w' (Nat.le_trans g1 hsa) g2 g3 (g4.up hsa))
  exact ih2 af s h2 (by omega) (fun _ => ⟨hn, hs⟩) R (I.up (by omega)) hS (fun m' e' w' g1 g2 g3 g4 => k m' e' w' (Nat.le_trans g1 hsb) g2 (g3.sub hE) ((g4.sub (fun id b hb => iY hH hb)).up hsb))
end
end Go.Gx.Rx
namespace Go.Gx.Rx
open Go.RowKit Go.Gx
section
variable {P : Program} {T : Tab} {n mm : Nat} {w0 w w' : World} {lo s : Nat} {m : M} {Hp : H} {E : AE} {e : Env} {Q : Exit → Act → World → Prop} {ro : Option Nat} {ds : List Deferred}
theorem wx_draw {id : Nat} {ops : Array Oper} (hm : P.follows .mixedOrders = true) {t : OT} (hr : kg ops t = true) {G : Env → World → Prop} (h : WS P ops (fun x a w => x = .normal ∧ ∃ e', Fr n a e' ∧ G e' w) (fun x => Ch No w.drew x) n t e w.drew) (k : ∀ e' w', G e' w' → WQX Q n ds .normal e' w') : WX P Q n mm ro ds (.region id ops true) e w := by
 intro a F
 unfold kg at hr
 simp only [Bool.and_eq_true] at hr
 obtain ⟨⟨hd, hs⟩, hc, hl⟩ := hr
 have hnd : ∀ (i : Nat) (o : Oper), ops[i]? = some o → ∀ c, o.op ≠ .defer c := fun i o ho c hcc => by
  have h1 : o ∈ ops.toList := by
   have : ops.toList[i]? = some o := by simpa using ho
   exact List.mem_of_getElem? this
  have := List.all_eq_true.1 hd o h1
  rw [hcc] at this; cases this
 have hQ : eG (fun x (a : Act) (w : World) => x = Exit.normal ∧ ∃ e', Fr n a e' ∧ G e' w) := fun c a a' w hd hq => by cases hq.1
 have h1 := (jf (tau := mP ops.size t) hs hQ _ t e w.drew h _ (eT _) (.inr (Ch.refl _ _)) _ F.bare).1 hc
 have h2 := dn _ _ _ _ h1
 rw [Nat.eq_of_beq_eq_true hl] at h2
 have h3 := fl (ro := ro) (mm := mm) (Q := Q) (ds := ds) hnd (fun c a w hq => by cases hq.1) (fun ⟨_, _, hq⟩ => by cases hq.1) (fun a w hq => by
  obtain ⟨_, e', F', hG⟩ := hq
  exact k e' w hG _ (ad_fr F')) _ _ _ _ h2
 rw [pQ F] at h3
 exact wpIn_region_any hm h3
/-! ### Results -/
theorem iu (K : TabOK P T) (R : ER m E e) (I : HR m Hp w) : ∀ {rs : List ResultVar} {ws : List W}, lk T E Hp rs = some ws → ∃ vs, wvs m ws = some vs ∧ ResIs P e w rs vs
 | [], ws, h => by simp only [lk, Option.some.injEq] at h; subst h; exact ⟨[], rfl, .nil⟩
 | .tmp t :: r, ws, h => by
  simp only [lk, Option.bind_eq_bind, Option.bind_eq_some_iff, Option.some.injEq] at h
  obtain ⟨V, hV, wd, hw, us, hu, rfl⟩ := h
  obtain ⟨v, h1, h2⟩ := R.get t V hV
  obtain ⟨vs, h3, h4⟩ := iu K R I hu
  exact ⟨v :: vs, wvs_cons.2 ⟨v, vs, sV h2 hw, h3, rfl⟩, .tmp h1 h4⟩
 | .cell a t :: r, ws, h => by
  simp only [lk, Option.bind_eq_bind, Option.bind_eq_some_iff, Option.some.injEq] at h
  obtain ⟨V, hV, p, hp, td, htd, k, hk, l, hl, wd, hw, us, hu, rfl⟩ := h
  obtain ⟨v, h1, h2⟩ := R.get a V hV
  obtain ⟨q, h3, rfl, _⟩ := da hp h2
  obtain ⟨vs, h4, h5⟩ := iu K R I hu
  obtain ⟨cs, g1, g2, g3⟩ := fW hl h3 I
  obtain ⟨D, hD, hf⟩ := K.desc htd
  rcases n9 hw g1 with ⟨k1, u, rfl, k2⟩ | ⟨k1, k2⟩
  ·exact ⟨u :: vs, wvs_cons.2 ⟨u, vs, k2, h4, rfl⟩, .cell1 h1 hD (by rw [hf]; exact k1) (by have := g3 0 u rfl; simpa using this) h5⟩
  exact ⟨_ :: vs, wvs_cons.2 ⟨_, vs, k2, h4, rfl⟩, .cellA h1 hD (by rw [hf]; exact k1) (by rw [K.sz _ _ hk, g2]) g3 h5⟩
theorem kA (K : TabOK P T) (R : ER m E e) (I : HR m Hp w) {fn : Func} {ws : List W} (h : lk T E Hp fn.results.toList = some ws) : ∃ v, vv m (qJ ws) = some v ∧ ∀ a, Fr n a e → (results fn a.tmps).run P w = .ok v w := by
 obtain ⟨vs, h1, h2⟩ := iu K R I h
 have hres : fn.results = fn.results.toList.toArray := by simp
 match ws, vs, h1, h2 with
 | [], vs, h1, h2 =>
  simp only [wvs, Option.some.injEq] at h1
  subst h1
  exact ⟨_, rfl, bd hres h2 rfl⟩
 | [wd], vs, h1, h2 =>
  obtain ⟨u, us, g1, g2, rfl⟩ := wvs_cons.1 h1
  simp only [wvs, Option.some.injEq] at g2
  subst g2
  refine ⟨u, kj g1, fun a F => ?_⟩
  have h3 := h2.run F
  unfold results
  rw [hres, List.mapM_toArray]
  simp only [Sem.run_bind, map_eq_pure_bind, Sem.run_pure]
  erw [h3]
  simp [Result.andThen_ok]
 | w1 :: w2 :: wr, vs, h1, h2 =>
  obtain ⟨u, us, g1, g2, rfl⟩ := wvs_cons.1 h1
  obtain ⟨u2, us2, g3, g4, rfl⟩ := wvs_cons.1 g2
  refine ⟨_, ?_, bd hres h2 (by simp)⟩
  show vv m (.t (w1 :: w2 :: wr)) = _
  simp [vv, h1]
/-! ### Marks, frames -/
def Dm (m : M) : Option Nat → List Deferred → Prop
 | none, ds => ds = []
 | some k, ds => ∃ q, m k = some q ∧ ds = Mk q.1
theorem Dm.le {m m' : M} (h : Le m m') {k : Option Nat} {ds : List Deferred} (d : Dm m k ds) : Dm m' k ds := by
 cases k with
 | none => exact d
 | some k => obtain ⟨q, h1, h2⟩ := d; exact ⟨q, h k q h1, h2⟩
def xx : X → Exit
 | .n => .normal
 | .r => .ret
 | .x i => .exit i
theorem Inv.drop (I : Inv w0 lo m Hp w s) {id : Nat} {q : Nat × Nat} {b : B} (hid : lo ≤ id) (hl : bF Hp id = some b) (hq : m id = some q) (c : Ch (fun k => k = q.1) w w') : Aft w0 lo m s m (gH Hp id) w' s := by
 refine ⟨Nat.le_refl _, Ext.refl, I.ch.trans c (fun _ _ h => h.elim) (fun i hi h => ?_), I.fre, fun j r h => Nat.lt_of_lt_of_le (I.lt j r h) c.size, I.own, fun j x h => ?_, fun j j' b1 b2 r r' h1 h2 h3 h4 h5 => ?_⟩
 ·have := I.own id q hid hq; omega
 ·obtain ⟨hne, h⟩ := Tr.get_del _ _ _ _ _ h
  obtain ⟨r, h1, h2⟩ := I.live j x h
  exact ⟨r, h1, h2.ch c (fun e => hne (I.inj j id x b r q h hl h1 hq e))⟩
 exact I.inj j j' b1 b2 r r' (Tr.get_del _ _ _ _ _ h1).2 (Tr.get_del _ _ _ _ _ h2).2 h3 h4 h5
def iK (tm : Array Value) : AE → Env
 | [] => []
 | (t, _) :: r => (t, tm.getD t undef) :: iK tm r
theorem jF {tm : Array Value} {t : Nat} {v : Value} : ∀ {E : AE}, look t (iK tm E) = some v → v = tm.getD t undef
 | [], h => by simp [iK, look] at h
 | (k, V) :: r, h => by
  simp only [iK] at h
  rw [ce] at h
  by_cases hk : k = t
  ·rw [if_pos hk] at h; cases h; rw [hk]
  rw [if_neg hk] at h; exact jF h
theorem kB {tm : Array Value} {t : Nat} {V : V} : ∀ {E : AE}, dz t E = some V → look t (iK tm E) = some (tm.getD t undef)
 | [], h => by simp [dz] at h
 | (k, U) :: r, h => by
  simp only [dz] at h
  simp only [iK]
  rw [ce]
  split at h
  ·rename_i hk
   rw [if_pos (Nat.eq_of_beq_eq_true hk), Nat.eq_of_beq_eq_true hk]
  rename_i hk
  rw [if_neg (gJ hk)]
  exact kB h
theorem pV (gl : ∀ g, Nat.blt g 4 = true → m g = some (g, 0)) : ∀ {Vs : List V} {vs : List Value} (k : Nat), vvs m Vs = some vs → ER m (kh k Vs) (eQ k vs)
 | [], vs, k, h => by
  simp only [vvs, Option.some.injEq] at h
  subst h
  exact ⟨gl, fun t V hV => by simp [kh, dz] at hV⟩
 | V :: r, vs, k, h => by
  obtain ⟨u, us, h1, h2, rfl⟩ := vvs_cons.1 h
  have ih := pV gl (k + 1) h2
  refine ⟨gl, fun t U hU => ?_⟩
  simp only [kh, dz] at hU
  simp only [eQ]
  rw [ce]
  split at hU
  ·rename_i hk
   cases hU
   rw [if_pos (Nat.eq_of_beq_eq_true hk)]
   exact ⟨u, rfl, h1⟩
  rename_i hk
  rw [if_neg (gJ hk)]
  exact ih.get t U hU
theorem pW : ∀ {Vs : List V} {vs : List Value}, vvs m Vs = some vs → vs.length = Vs.length
 | [], vs, h => by simp only [vvs, Option.some.injEq] at h; subst h; rfl
 | V :: r, vs, h => by obtain ⟨u, us, h1, h2, rfl⟩ := vvs_cons.1 h; simp [pW h2]
def lJ (P : Program) (T : Tab) (k : Nat) : Prop := ∀ (f n lo : Nat) (inr : Bool) (c : Code) (st : St) (x : X) (st' : St), run T k f n lo inr c st = some (x, st') → lo ≤ st.s → ∀ (ro : Option Nat), inr = ro.isSome → ∀ (mm : Nat) (Q : Exit → Act → World → Prop) (m : M) (e : Env) (w w0 : World) (ds : List Deferred), Dm m st.mrk ds → ER m st.E e → Inv w0 lo m st.H w st.s →
 (∀ m' e' w' ds', Aft w0 lo m st.s m' st'.H w' st'.s → ER m' st'.E e' → Dm m' st'.mrk ds' → WQX Q n ds' (xx x) e' w') → WX P Q n mm ro ds c e w
def pX (P : Program) (T : Tab) (k : Nat) : Prop := ∀ (f n lo : Nat) (inr : Bool) (c : Code) (st : St) (x : X) (st' : St), run T k f n lo inr (.loop c) st = some (x, st') → lo ≤ st.s → ∃ N, ∀ (ro : Option Nat), inr = ro.isSome → ∀ (mm : Nat) (Q : Exit → Act → World → Prop) (m : M) (e : Env) (w w0 : World) (ds : List Deferred), Dm m st.mrk ds → ER m st.E e → Inv w0 lo m st.H w st.s →
 (∀ m' e' w' ds', Aft w0 lo m st.s m' st'.H w' st'.s → ER m' st'.E e' → Dm m' st'.mrk ds' → WQX Q n ds' (xx x) e' w') → ∀ a, FrD n ds a e → Code.roundsIn (FW ro) mm P c Q N a w
def pY (P : Program) (T : Tab) : Prop := ∀ f g, Tr.get 16 T.orc f = some g → ∀ call, fk P call → ∀ vs lo Hp s V Hp' s', g call vs lo Hp s = some (V, Hp', s') → ∀ (m : M) (w w0 : World) (args : List Value), lo ≤ s → (∀ g, Nat.blt g 4 = true → m g = some (g, 0)) → Inv w0 lo m Hp w s → vvs m vs = some args → eE P f args w (Cr w0 lo m s V Hp' s')
theorem pZ (K : TabOK P T) {k : Nat} (SR : lJ P T k) {j f : Nat} (ho : Tr.get 16 T.orc f = none) {vs : List V} {V : V} {Hp' : H} {s' : Nat} (h : fK T (run T k) (j + 1) f vs lo Hp s = some (V, Hp', s')) {args : List Value} (hls : lo ≤ s) (gl : ∀ g, Nat.blt g 4 = true → m g = some (g, 0)) (I : Inv w0 lo m Hp w s) (hv : vvs m vs = some args) : Ent P f ∧ Calls P f args.toArray w (Cr w0 lo m s V Hp' s') := by
 simp only [fK, ho, Option.bind_eq_bind, Option.bind_eq_some_iff, gu_eq] at h
 obtain ⟨fn, hfn, c, hc, _, hle, ⟨x, st⟩, hrun, _, hx, h⟩ := h
 obtain ⟨hf, hname⟩ := K.fn _ _ hfn
 refine ⟨⟨fn, c, hf, hname, hc⟩, ?_⟩
 have hlen : Nat.ble args.length fn.ntmps = true := by rw [pW hv]; exact hle
 have hR := pV gl 0 hv
 have wx := fun (Q : Exit → Act → World → Prop) (k' : ∀ m' e' w' ds', Aft w0 lo m s m' st.H w' st.s → ER m' st.E e' → Dm m' st.mrk ds' → WQX Q fn.ntmps ds' (xx x) e' w') => SR f fn.ntmps lo false c ⟨kh 0 vs, Hp, s, none⟩ x st hrun hls none rfl 1 Q m (eQ 0 args) w w0 [] rfl hR I k'
 simp only at h
 split at h
 ·rename_i hmk
  simp only [Option.bind_eq_some_iff, Option.some.injEq, Prod.mk.injEq] at h
  obtain ⟨ws, hws, rfl, rfl, rfl⟩ := h
  refine aH hf hc rfl hlen (fun a F => wpIn_wide.1 (wx (bodyPost P fn (Cr w0 lo m s (qJ ws) st.H st.s)) (fun m' e' w' ds' A R' D => ?_) a ⟨F.size, F.defs, F.get⟩))
  rw [hmk] at D
  have D : ds' = [] := D
  subst D
  obtain ⟨v, h1, h2⟩ := kA (n := fn.ntmps) K R' A.inv.hr hws
  have hC : Cr w0 lo m s (qJ ws) st.H st.s (.returned v) w' := ⟨m', v, rfl, A, h1⟩
  cases x with
  | n => exact fun a F => dT h2 hC a ⟨F.size, F.defs, F.get⟩
  | r => exact fun a F => aj h2 hC a ⟨F.size, F.defs, F.get⟩
  | x i => cases hx
 rename_i kid hmk
 simp only [Option.bind_eq_some_iff, gu_eq] at h
 obtain ⟨_, hlk, b, hb, h⟩ := h
 split at h
 ·simp only [Option.bind_eq_some_iff, Option.some.injEq, Prod.mk.injEq] at h
  obtain ⟨ws, hws, rfl, rfl, rfl⟩ := h
  refine kP hf hc rfl hlen (fun a F => wpIn_wide.1 (wx (bodyPostM Fence.wide 1 P fn (Cr w0 lo m s (qJ ws) (gH st.H kid) st.s)) (fun m' e' w' ds' A R' D => ?_) a ⟨F.size, F.defs, F.get⟩))
  rw [hmk] at D
  obtain ⟨q, hq, rfl⟩ := D
  obtain ⟨q', g1, g2⟩ := A.inv.live kid _ hb
  rw [hq] at g1; cases g1
  exact gg g2 (fun w2 c2 hs2 => by
   have A2 := A.trans (A.inv.drop (Nat.le_of_ble_eq_true hlk) hb hq c2)
   obtain ⟨v, h1, h2⟩ := kA (n := fn.ntmps) K R' A2.inv.hr hws
   exact ⟨v, h2, m', v, rfl, A2, h1⟩)
 cases h
theorem p4 (K : TabOK P T) (OO : pY P T) {k : Nat} (SR : lJ P T k) : ∀ j, fk P (fK T (run T k) j)
 | 0 => fun f vs lo Hp s V Hp' s' h => by simp [fK] at h
 | j + 1 => fun f vs lo Hp s V Hp' s' h m w w0 args hls gl I hv => by
  cases ho : Tr.get 16 T.orc f with
  | some g =>
   have h' := h
   simp only [fK, ho] at h'
   exact OO f g ho _ (p4 K OO SR j) _ _ _ _ _ _ _ h' m w w0 args hls gl I hv
  | none => exact .inl (pZ K SR ho h hls gl I hv)
end
end Go.Gx.Rx
namespace Go.Gx
open Go.RowKit Go.Gx.Rx
def QN (Q : Exit → Act → World → Prop) : Exit → Act → World → Prop := fun x a w => x = .normal ∧ Q .normal a w
section
variable {P : Program} {Q : Exit → Act → World → Prop} {S : World → Prop} {n m : Nat} {ro : Option Nat} {e : Env} {w : World}
theorem tc {id : Nat} {ops : Array Oper} (t : OT) (hm : P.follows .mixedOrders = true) (hr : kg ops t = true) (S : World → Prop) (hS : S w.drew) (h : WS P ops (QN Q) S n t e w.drew) : WCi P Q n m ro (.region id ops true) e w := by
 intro a F
 unfold kg at hr
 simp only [Bool.and_eq_true] at hr
 obtain ⟨⟨hd, hs⟩, hc, hl⟩ := hr
 have hnd : ∀ (i : Nat) (o : Oper), ops[i]? = some o → ∀ c, o.op ≠ .defer c := fun i o ho c hcc => by
  have h1 : o ∈ ops.toList := by
   have : ops.toList[i]? = some o := by simpa using ho
   exact List.mem_of_getElem? this
  have := List.all_eq_true.1 hd o h1
  rw [hcc] at this; cases this
 have hQ : eG (QN Q) := fun c a a' w hd hq => by cases hq.1
 have h1 := (jf (tau := mP ops.size t) hs hQ S t e w.drew h _ (eT _) (.inr hS) _ F).1 hc
 have h2 := dn _ _ _ _ h1
 rw [Nat.eq_of_beq_eq_true hl] at h2
 have h3 := fl (ro := ro) (mm := m) (Q := Q) (ds := []) hnd (fun c a w hq => by cases hq.1) (fun ⟨_, _, hq⟩ => by cases hq.1) (fun a w hq => by
  have : ad a [] = a := by unfold ad; simp
  rw [this]; exact hq.2) _ _ _ _ h2
 have ha : ad a [] = a := by unfold ad; simp
 rw [ha] at h3
 exact wpIn_region_any hm h3
theorem jT {id : Nat} {ops : Array Oper} (t : OT) (U : Nat → Prop) (k : ∀ w', Ch No w w' → w'.heap.size = w.heap.size → WS P ops (QN Q) (fun x => Ch U w' x) n t e w') (hm : P.follows .mixedOrders = true := by kernel_rfl) (hr : kg ops t = true := by kernel_rfl) : WCi P Q n m ro (.region id ops true) e w :=
 tc t hm hr (fun x => Ch U w.drew x) (Ch.refl _ _) (k w.drew (Ch.drew _) rfl)
theorem wdrn {id : Nat} {ops : Array Oper} (l : OT) (tau : Nat) (U : Nat → Prop) (k : ∀ w', Ch No w w' → w'.heap.size = w.heap.size → WS P ops (QN Q) (fun x => Ch U w' x) n l e w') (hm : P.follows .mixedOrders = true := by kernel_rfl) (hs : Region.noSelect ops = true := by kernel_rfl) (hc : (bm .any ops tau l true (Array.replicate ops.size false) && Nat.beq l.len ops.size) = true := by kernel_rfl) : WC P Q n (.region id ops true) e w :=
 fun a F => Code.wp_mono (fun x a w (h : x = .normal ∧ Q .normal a w) => h.1 ▸ h.2) (dc (Q := QN Q) l tau hm hs hc (fun c a a' w hd hq => by cases hq.1) (fun x => Ch U w.drew x) (Ch.refl _ _) (k w.drew (Ch.drew _) rfl) a F)
theorem bY {ops : Array Oper} (h : WQ Q n .normal e w) : WS P ops (QN Q) S n .nil e w := .nil (fun a F => ⟨rfl, h a F⟩)
end
end Go.Gx
namespace Go.Gx.Rx
open Go.RowKit Go.Gx
def rkL : L := Go.Plain.rk.map fun x => (1, .i .u32 (x.toNat : Int))
def isRk : B → Option Unit
 | .rd l => gu (lj l rkL)
 | _ => none
def lK (vs : List V) (lo : Nat) (Hp : H) (s : Nat) : R := match vs with
 | [v] => do
  let c ← asC v
  let b0 ← bF Hp 0
  let _ ← isRk b0
  let n ← eL c
  let _ ← gu (Nat.blt n 1000000)
  let l ← slc Hp 1 c
  let b ← toB (ex l)
  some (.a (ofB (Go.Plain.shaF b)), Hp, s)
 | _ => none
def iZ (k : IntKind) (vs : List V) (lo : Nat) (Hp : H) (s : Nat) : R := match vs with
 | [v] => do
  let (id, o) ← asP v
  let l ← rdc Hp id o 1
  match l with
  | [(1, .i k' z)] => do
   let _ ← gu (decide (k' = k))
   some (.c (.i k z), Hp, s)
  | _ => none
 | _ => none
def gM (k : IntKind) (vs : List V) (lo : Nat) (Hp : H) (s : Nat) : R := match vs with
 | [v, u] => do
  let (id, o) ← asP v
  let (k', z) ← asI u
  let _ ← gu (decide (k' = k))
  let Hp ← wrc Hp lo id o [(1, .i k z)]
  some (.t [], Hp, s)
 | _ => none
def lL (k : IntKind) (vs : List V) (lo : Nat) (Hp : H) (s : Nat) : R := match vs with
 | [v, u] => do
  let (id, o) ← asP v
  let (k', y) ← asI u
  let _ ← gu (decide (k' = k))
  let l ← rdc Hp id o 1
  match l with
  | [(1, .i k' x)] => do
   let _ ← gu (decide (k' = k))
   let Hp ← wrc Hp lo id o [(1, .i k (k.wrap (x + y)))]
   some (.c (.i k (k.wrap (x + y))), Hp, s)
  | _ => none
 | _ => none
def i5 (f0 : Nat) (call : FuncId → List V → Nat → H → Nat → R) (vs : List V) (lo : Nat) (Hp : H) (s : Nat) : R := match vs with
 | [v, .c (.f f caps)] => do
  let _ ← gu (Nat.beq f f0)
  let (id, o) ← asP v
  let l ← rdc Hp id o 2
  match l with
  | [(1, .i .u32 x), (1, .i .i32 y)] => do
   let _ ← gu (decide (x = 0) && decide (y = 0))
   let Hp ← wrc Hp lo id (o + 1) [(1, .i .i32 1)]
   let (r, Hp, s) ← call f (caps.map fun (i, o) => .c (.p i o)) lo Hp s
   let l ← rdc Hp id o 2
   match r, l with
   | .t [], [(1, .i .u32 x), (1, .i .i32 y)] => do
    let _ ← gu (decide (x = 0) && decide (y = 1))
    let Hp ← wrc Hp lo id o [(1, .i .u32 1)]
    let Hp ← wrc Hp lo id (o + 1) [(1, .i .i32 0)]
    some (.t [], Hp, s)
   | _, _ => none
  | _ => none
 | _ => none
end Go.Gx.Rx
namespace Go.Gx.Rx
open Go.RowKit Go.Gx
section
variable {P : Program} {T : Tab} {n mm : Nat} {w0 w w' : World} {lo s : Nat} {m : M} {Hp : H} {E : AE} {e : Env} {Q : Exit → Act → World → Prop} {ro : Option Nat} {ds : List Deferred}
theorem jG {l : Nat} : ∀ {ps : List Nat} {vs : List V} {E E' : AE} {args : List Value} {tm : Array Value} {e : Env}, nU n ps vs E = some E' → vvs m vs = some args → ER m E e → Fr n { tmps := tm, defers := [] } e →
  args.length = ps.length ∧ ∃ e', ER m E' e' ∧ Fr n { tmps := (ps.zip args).foldl (fun t (p, v) => t.setIfInBounds p v) tm, defers := [] } e'
 | [], [], E, E', args, tm, e, h, hv, R, F => by
  simp only [nU, Option.some.injEq] at h
  simp only [vvs, Option.some.injEq] at hv
  subst h hv
  exact ⟨rfl, e, R, F⟩
 | p :: ps, V :: vs, E, E', args, tm, e, h, hv, R, F => by
  simp only [nU, Option.bind_eq_bind, Option.bind_eq_some_iff, gu_eq] at h
  obtain ⟨_, hlt, h⟩ := h
  obtain ⟨u, us, h1, h2, rfl⟩ := vvs_cons.1 hv
  have F' := F.put hlt u
  obtain ⟨g1, e', g2, g3⟩ := jG (l := l) h h2 (R.put p h1) (tm := tm.setIfInBounds p u) ⟨by simpa [Act.put] using F'.size, rfl, fun t x hx => by simpa [Act.put] using F'.get t x hx⟩
  exact ⟨by simp [g1], e', g2, by simpa using g3⟩
 | [], V :: vs, E, E', args, tm, e, h, hv, R, F => by simp [nU] at h
 | p :: ps, [], E, E', args, tm, e, h, hv, R, F => by simp [nU] at h
theorem lM {b : Nat} {o o' : Obj} (h : w.heap[b]? = some o') : (w.putObj b o).heap[b]? = some o := World.putObj_heap_same (Array.getElem?_eq_some_iff.1 h).1
theorem yld_ok {k : Nat} (SR : lJ P T k) : YldOK P (yld_ T (run T k)) := by
 intro id vs lo Hp s V Hp' s' h m w w0 args q kk hls gl I hv hq
 simp only [yld_, Option.bind_eq_bind, Option.bind_eq_some_iff, gu_eq] at h
 obtain ⟨_, hlo, b, hb, h⟩ := h
 have hlo := Nat.le_of_ble_eq_true hlo
 split at h
 ·rename_i f n E ps assign body kid
  simp only [Option.bind_eq_some_iff] at h
  obtain ⟨E1, hE1, ⟨x1, st1⟩, hr1, h⟩ := h
  simp only at h
  obtain ⟨q', g1, qk, tm, fn, l1, l2, l3, l4⟩ := I.live id _ hb
  rw [hq] at g1; cases g1
  have F0 : Fr n { tmps := tm, defers := [] } (iK tm E) := ⟨l3, rfl, fun t v hv => (jF hv).symm⟩
  have R0 : ER m E (iK tm E) := ⟨gl, fun t V hV => by
   obtain ⟨v, v1, v2⟩ := l4 t V hV
   exact ⟨_, kB hV, by rw [v1]; exact v2⟩⟩
  obtain ⟨hlen, e1, R1, F1⟩ := jG (l := 0) hE1 hv R0 F0
  refine ⟨fn, _, assign, body, run_yield l2 (by simpa using hlen), roundIn_of_wpIn (F := Fence.wide) trivial ?_⟩
  have F1' : FrD n [] { tmps := ((ps.toArray.zip args.toArray).foldl (fun tmps (t, a) => tmps.setIfInBounds t a) tm), defers := [] } e1 := by
   have : (ps.toArray.zip args.toArray).foldl (fun tmps (t, a) => tmps.setIfInBounds t a) tm = (ps.zip args).foldl (fun t (p, v) => t.setIfInBounds p v) tm := by
    rw [← Array.foldl_toList]; simp
   rw [this]
   exact ⟨F1.size, rfl, F1.get⟩
  refine SR f n lo true assign ⟨E1, Hp, s, none⟩ x1 st1 hr1 hls (some q.1) rfl kk (Exit.then _ (fun _ _ _ => False)) m e1 w w0 [] rfl R1 I (fun m1 e2 w1 ds1 A1 R2 D1 => ?_) _ F1'
  cases x1 with
  | r => cases h
  | x i => cases h
  | n =>
   simp only [Option.bind_eq_some_iff] at h
   obtain ⟨b2, hb2, h⟩ := h
   intro a2 F2
   show ∃ w2, (Instr.beginRound q.1).run P w1 = .ok () w2 ∧ body.wpIn (FW (some q.1)) kk P (roundPost P q.1 (Cr w0 lo m s V Hp' s')) a2 w2
   have hq1 : m1 id = some q := by rw [A1.ext id (I.id_lt hq)]; exact hq
   split at h
   ·rename_i f' n' E' ps' assign' body' k'
    simp only [Option.bind_eq_some_iff] at h
    obtain ⟨⟨x3, st3⟩, hr3, b3, hb3, h⟩ := h
    simp only at h hb3
    obtain ⟨q', g1, qk2, tm2, fn2, l1', l2', l3', l4'⟩ := A1.inv.live id _ hb2
    rw [hq1] at g1; cases g1
    refine ⟨_, run_beginRound l2' rfl, ?_⟩
    have A2 := A1.inv.upd (b' := .lb f' n' E' ps' assign' body' k') hlo hb2 hq1 (dv w1 q.1 (.loop { state := .busy, pending := none, fn := fn2, tmps := tm2, params := ps'.toArray, assign := assign', body := body', defers := qk2.1 })) ⟨qk2, tm2, fn2, l1', lM l2', l3', l4'⟩
    refine SR f n lo true body ⟨st1.E, _, st1.s, st1.mrk⟩ x3 st3 hr3 (Nat.le_trans hls A1.le) (some q.1) rfl kk (roundPost P q.1 (Cr w0 lo m s V Hp' s')) m1 e2 _ w0 ds1 D1 R2 A2.inv (fun m3 e3 w3 ds3 A3 R3 D3 => ?_) a2 F2
    have hq3 : m3 id = some q := by rw [A3.ext id (A1.inv.id_lt hq1)]; exact hq1
    split at h
    ·rename_i f4 n4 E4 ps4 assign4 body4 k4
     obtain ⟨q', g1, qk4, tm4, fn4, l1'', l2'', l3'', l4''⟩ := A3.inv.live id _ hb3
     rw [hq3] at g1; cases g1
     have AA := A1.trans (A2.trans A3)
     cases x3 with
     | n =>
      simp only [Option.some.injEq, Prod.mk.injEq] at h
      obtain ⟨rfl, rfl, rfl⟩ := h
      intro a3 F3
      have A4 := A3.inv.upd (b' := .lp f4 n4 E4 ps4 assign4 body4 k4) hlo hb3 hq3 (dv w3 q.1 (.loop { state := .ready, pending := none, fn := fn4, tmps := tm4, params := ps4.toArray, assign := assign4, body := body4, defers := qk4.1 })) ⟨qk4, tm4, fn4, l1'', lM l2'', l3'', l4''⟩
      exact ⟨_, _, run_endRound none l2'', m3, _, rfl, AA.trans A4, rfl⟩
     | r =>
      simp only [Option.some.injEq, Prod.mk.injEq] at h
      obtain ⟨rfl, rfl, rfl⟩ := h
      intro a3 F3
      have A4 := A3.inv.upd (b' := .ld .ret) hlo hb3 hq3 (dv w3 q.1 (.loop { state := .done, pending := some .ret, fn := fn4, tmps := tm4, params := ps4.toArray, assign := assign4, body := body4, defers := qk4.1 })) ⟨_, lM l2'', rfl, rfl⟩
      exact ⟨_, _, run_endRound (some .ret) l2'', m3, _, rfl, AA.trans A4, rfl⟩
     | x i =>
      simp only [Option.some.injEq, Prod.mk.injEq] at h
      obtain ⟨rfl, rfl, rfl⟩ := h
      intro a3 F3
      have A4 := A3.inv.upd (b' := .ld (.exit i)) hlo hb3 hq3 (dv w3 q.1 (.loop { state := .done, pending := some (.exit i), fn := fn4, tmps := tm4, params := ps4.toArray, assign := assign4, body := body4, defers := qk4.1 })) ⟨_, lM l2'', rfl, rfl⟩
      exact ⟨_, _, run_endRound (some (.exit i)) l2'', m3, _, rfl, AA.trans A4, rfl⟩
    cases h
   cases h
 cases h
theorem range_x (K : TabOK P T) {k : Nat} (SR : lJ P T k) {f lo : Nat} {g : Operand} {ps : Array Tmp} {assign body : Code} {st st' : St} {x : X} {j : Nat} (h : dl T (j + 1) (run T k) f n lo false (.rangeFunc g ps assign body) st = some (x, st')) (hls : lo ≤ st.s) (D : Dm m st.mrk ds) (R : ER m st.E e) (I : Inv w0 lo m st.H w st.s)
  (kc : ∀ m' e' w' ds', Aft w0 lo m st.s m' st'.H w' st'.s → ER m' st'.E e' → Dm m' st'.mrk ds' → WQX Q n ds' (xx x) e' w') : WX P Q n mm none ds (.rangeFunc g ps assign body) e w := by
 simp only [dl] at h
 cases hmk : st.mrk with
 | some k0 => simp [hmk] at h
 | none =>
  rw [hmk] at D
  have D : ds = [] := D
  subst D
  simp only [hmk, Option.bind_eq_bind, Option.bind_eq_some_iff, gu_eq] at h
  obtain ⟨v, hv, ⟨gf, caps⟩, hq, _, horc, ⟨V, H3, s3⟩, hcall, b, hb, h⟩ := h
  have hv' : v = .c (.f gf caps) := by
   unfold asF at hq
   split at hq
   ·cases hq; rfl
   cases hq
  subst hv'
  obtain ⟨fv, f1, f2⟩ := ay R hv
  simp only [vv, cv, Option.bind_eq_bind, Option.bind_eq_some_iff, Option.some.injEq] at f2
  obtain ⟨cs, f3, rfl⟩ := f2
  have horc := Option.isNone_iff_eq_none.1 horc
  intro a F
  refine wpIn_rangeFunc fun fn _ => ?_
  obtain ⟨W1, hW1⟩ : ∃ W1, w.alloc (.deferred (some [])) = W1 := ⟨_, rfl⟩
  obtain ⟨W2, hW2⟩ : ∃ W2, W1.alloc (.loop { state := .ready, pending := none, fn := fn, tmps := a.tmps, params := ps, assign, body, defers := w.heap.size }) = W2 := ⟨_, rfl⟩
  have hs1 : W1.heap.size = w.heap.size + 1 := by rw [← hW1]; simp
  have hs2 : W2.heap.size = w.heap.size + 2 := by rw [← hW2]; simp [hs1]
  have hK1 : W1.heap[w.heap.size]? = some (.deferred (some [])) := by rw [← hW1]; exact World.alloc_heap_new w _
  have c1 : Ch No w W1 := by rw [← hW1]; exact Ch.alloc _ _
  have c2 : Ch No W1 W2 := by rw [← hW2]; exact Ch.alloc _ _
  have A1 := I.new (q := (w.heap.size, 0)) (b := .df) (w' := W1) (by simp) (by simp [hs1]) c1 hK1
  have R1 := R.le (I.le A1.ext)
  have hL2 : W2.heap[w.heap.size + 1]? = some (.loop { state := .ready, pending := none, fn := fn, tmps := a.tmps, params := ps, assign, body, defers := w.heap.size }) := by
   rw [← hW2, ← hs1]; exact World.alloc_heap_new W1 _
  obtain ⟨m1, hm1⟩ : ∃ m1, m.add st.s (w.heap.size, 0) = m1 := ⟨_, rfl⟩
  rw [hm1] at A1 R1
  have hm1s : m1 st.s = some (w.heap.size, 0) := by rw [← hm1]; exact M.add_self _ _ _
  obtain ⟨m2, hm2⟩ : ∃ m2, m1.add (st.s + 1) (w.heap.size + 1, 0) = m2 := ⟨_, rfl⟩
  have hext2 : Ext (st.s + 1) m1 m2 := by rw [← hm2]; exact M.add_ext _ _ _
  have hm2s : m2 st.s = some (w.heap.size, 0) := by rw [hext2 st.s (by omega)]; exact hm1s
  have hm2l : m2 (st.s + 1) = some (w.heap.size + 1, 0) := by rw [← hm2]; exact M.add_self _ _ _
  have hle2 := A1.inv.le hext2
  have A2 := A1.inv.new (q := (w.heap.size + 1, 0)) (b := .lp f n st.E ps.toList assign body st.s) (w' := W2) (by simp [hs1]) (by simp [hs2]) c2 (by
   rw [hm2]
   refine ⟨(w.heap.size, 0), a.tmps, fn, hm2s, by simpa using hL2, F.size, fun t V hV => ?_⟩
   obtain ⟨v, h1, h2⟩ := R1.get t V hV
   exact ⟨v, F.get t v h1, sY hle2 h2⟩)
  rw [hm2] at A2
  have R2 := R1.le hle2
  have hargs : vvs m2 (.c (.y (st.s + 1)) :: caps.map fun (i, o) => Rx.V.c (.p i o)) = some (.func (.yield (w.heap.size + 1)) #[] #[] :: cs) :=
   vvs_cons.2 ⟨_, cs, by simp [vv, cv, hm2l], gK (ln hle2 (ln (I.le A1.ext) f3)), rfl⟩
  obtain ⟨hent, hcalls⟩ := pZ (w := W2) (w0 := w0) (m := m2) (lo := lo) K SR horc hcall (by omega) R2.gl A2.inv hargs
  have eg : ∀ args w, (callFunc gf args).run P w = .ok (.enter gf args) w := fun args w => dW hent args
  refine ⟨w.heap.size + 1, [{ target := .collected w.heap.size, args := #[] }], W2, { target := .fn (.func gf) cs.toArray, args := #[.func (.yield (w.heap.size + 1)) #[] #[]] }, W2, gf,
   #[.func (.yield (w.heap.size + 1)) #[] #[]] ++ cs.toArray, W2, ?_, ?_, fun _ _ => trivial, ?_, fun hd => ?_, callsIn_wide.2 ?_⟩
  ·rw [← hW2, ← hW1]; exact run_enterLoop_outer _ _ _ _ _
  ·have hev : a.eval g = .func (.func gf) #[] cs.toArray := F.bare.ev f1
   simp only [resolve, hev]
   simp [go_sem]
  ·simp [invoke, go_sem, eg]
  ·cases hd
  have harr : (#[.func (.yield (w.heap.size + 1)) #[] #[]] ++ cs.toArray : Array Value) = (Value.func (.yield (w.heap.size + 1)) #[] #[] :: cs).toArray := by simp
  rw [harr]
  refine hcalls.mono ?_
  rintro ed W3 ⟨m3, v3, rfl, A3, _⟩
  have hm3l : m3 (st.s + 1) = some (w.heap.size + 1, 0) := by rw [A3.ext _ (by omega)]; exact hm2l
  have hm3s : m3 st.s = some (w.heap.size, 0) := by rw [A3.ext _ (by omega)]; exact hm2s
  have FD : FrD n (Mk w.heap.size) { a with defers := [{ target := .collected w.heap.size, args := #[] }] ++ a.defers } e := ⟨F.size, by simp [F.defs], F.get⟩
  obtain ⟨q, g1, g2⟩ := A3.inv.live _ _ hb
  rw [hm3l] at g1; cases g1
  have fin : ∀ (r : Loop) (x : X) (st' : St), W3.heap[w.heap.size + 1]? = some (.loop r) → st' = ⟨st.E, gH H3 (st.s + 1), s3, some st.s⟩ → (∀ m' e' w' ds', Aft w0 lo m st.s m' st'.H w' st'.s → ER m' st'.E e' → Dm m' st'.mrk ds' → WQX Q n ds' (xx x) e' w') → Q (xx x) { a with defers := [{ target := .collected w.heap.size, args := #[] }] ++ a.defers } (W3.putObj (w.heap.size + 1) (.loop { r with state := .exhausted })) := by
   intro r x st' hr hst kc
   subst hst
   have A4 := A3.inv.drop (w' := W3.putObj (w.heap.size + 1) (.loop { r with state := .exhausted })) (by omega) hb hm3l (dv _ _ _)
   have AA := (A1.trans A2).trans (A3.trans A4)
   exact kc m3 e _ (Mk w.heap.size) AA (R.le (I.le AA.ext)) ⟨_, hm3s, rfl⟩ _ FD
  split at h
  ·simp only [Option.some.injEq, Prod.mk.injEq] at h
   obtain ⟨rfl, rfl⟩ := h
   obtain ⟨qk, tm, fn', _, l2, _, _⟩ := g2
   exact ⟨none, _, run_endLoop l2 (by simp), fin _ .n _ l2 rfl kc⟩
  ·simp only [Option.some.injEq, Prod.mk.injEq] at h
   obtain ⟨rfl, rfl⟩ := h
   obtain ⟨r, l2, l3, l4⟩ := g2
   have he := run_endLoop (P := P) l2 (by rw [l3]; simp)
   exact ⟨some .ret, W3.putObj (w.heap.size + 1) (.loop { r with state := .exhausted }), by rw [← l4]; exact he, wpIn_ret (fin _ .r _ l2 rfl kc)⟩
  ·rename_i i
   simp only [Option.some.injEq, Prod.mk.injEq] at h
   obtain ⟨rfl, rfl⟩ := h
   obtain ⟨r, l2, l3, l4⟩ := g2
   have he := run_endLoop (P := P) l2 (by rw [l3]; simp)
   exact ⟨some (.exit i), W3.putObj (w.heap.size + 1) (.loop { r with state := .exhausted }), by rw [← l4]; exact he, wpIn_exit (fin _ (.x i) _ l2 rfl kc)⟩
  cases h
theorem te {c : Code} (h : WX P (Exit.noGoto Q) n mm none [] c e w) : WX P Q n mm none [] (.scope c) e w := fun a F => wpIn_wide.2 (wp_scope_straight (wpIn_wide.1 (h a F)))
theorem q4 (K : TabOK P T) (OO : pY P T) (hm : P.follows .mixedOrders = true) {k : Nat} (SR : lJ P T k) (SL : pX P T k) : lJ P T (k + 1) ∧ pX P T (k + 1) := by
 have loopN : pX P T (k + 1) := by
  intro f n lo inr c st x st' h hls
  simp only [run, dl, Option.bind_eq_bind, Option.bind_eq_some_iff] at h
  obtain ⟨⟨x1, st1⟩, h1, h⟩ := h
  simp only at h
  cases x1 with
  | n =>
   have hs1 : ∀ {m : M} {e : Env} {w : World}, True := trivial
   have hle : ∃ N, st.s ≤ st1.s → ∀ (ro : Option Nat), inr = ro.isSome → ∀ (mm : Nat) (Q : Exit → Act → World → Prop) (m : M) (e : Env) (w w0 : World) (ds : List Deferred), Dm m st1.mrk ds → ER m st1.E e → Inv w0 lo m st1.H w st1.s →
     (∀ m' e' w' ds', Aft w0 lo m st1.s m' st'.H w' st'.s → ER m' st'.E e' → Dm m' st'.mrk ds' → WQX Q n ds' (xx x) e' w') → ∀ a, FrD n ds a e → Code.roundsIn (FW ro) mm P c Q N a w := by
    by_cases hle : st.s ≤ st1.s
    ·obtain ⟨N, hN⟩ := SL f n lo inr c st1 x st' h (Nat.le_trans hls hle)
     exact ⟨N, fun _ => hN⟩
    exact ⟨0, fun h => absurd h hle⟩
   obtain ⟨N, hN⟩ := hle
   refine ⟨N + 1, fun ro hro mm Q m e w w0 ds D R I kc => ?_⟩
   have := SR f n lo inr c st .n st1 h1 hls ro hro mm (Exit.then (Code.roundsIn (FW ro) mm P c Q N) Q) m e w w0 ds D R I (fun m1 e1 w1 ds1 A1 R1 D1 => fun a1 F1 => hN A1.le ro hro mm Q m1 e1 w1 w0 ds1 D1 R1 A1.inv (fun m' e' w' ds' A' R' D' => kc m' e' w' ds' (A1.trans A') R' D') a1 F1)
   exact this
  | r =>
   cases h
   exact ⟨1, fun ro hro mm Q m e w w0 ds D R I kc => SR f n lo inr c st .r _ h1 hls ro hro mm (Exit.then (Code.roundsIn (FW ro) mm P c Q 0) Q) m e w w0 ds D R I (fun m1 e1 w1 ds1 A1 R1 D1 => kc m1 e1 w1 ds1 A1 R1 D1)⟩
  | x i =>
   cases h
   exact ⟨1, fun ro hro mm Q m e w w0 ds D R I kc => SR f n lo inr c st (.x i) _ h1 hls ro hro mm (Exit.then (Code.roundsIn (FW ro) mm P c Q 0) Q) m e w w0 ds D R I (fun m1 e1 w1 ds1 A1 R1 D1 => kc m1 e1 w1 ds1 A1 R1 D1)⟩
 refine ⟨?_, loopN⟩
 intro f n lo inr c st x st' h hls ro hro mm Q m e w w0 ds D R I kc
 have h0 := h
 simp only [run] at h
 cases c with
 | skip =>
  simp only [dl, Option.some.injEq, Prod.mk.injEq] at h
  obtain ⟨rfl, rfl⟩ := h
  exact fun a F => wpIn_skip (kc m e w ds (Aft.refl I) R D a F)
 | ret =>
  simp only [dl, Option.some.injEq, Prod.mk.injEq] at h
  obtain ⟨rfl, rfl⟩ := h
  exact fun a F => wpIn_ret (kc m e w ds (Aft.refl I) R D a F)
 | exit i =>
  simp only [dl, Option.some.injEq, Prod.mk.injEq] at h
  obtain ⟨rfl, rfl⟩ := h
  exact fun a F => wpIn_exit (kc m e w ds (Aft.refl I) R D a F)
 | label l =>
  simp only [dl, Option.some.injEq, Prod.mk.injEq] at h
  obtain ⟨rfl, rfl⟩ := h
  exact fun a F => wpIn_label (kc m e w ds (Aft.refl I) R D a F)
 | seq a b =>
  simp only [dl, Option.bind_eq_bind, Option.bind_eq_some_iff] at h
  obtain ⟨⟨x1, st1⟩, h1, h⟩ := h
  simp only at h
  have wx := SR f n lo inr a st x1 st1 h1 hls ro hro mm (Exit.then (b.wpIn (FW ro) mm P Q) Q) m e w w0 ds D R I
  cases x1 with
  | n =>
   refine fun a F => wpIn_seq (wx (fun m1 e1 w1 ds1 A1 R1 D1 => fun a1 F1 => ?_) a F)
   exact SR f n lo inr b st1 x st' h (Nat.le_trans hls A1.le) ro hro mm Q m1 e1 w1 w0 ds1 D1 R1 A1.inv (fun m' e' w' ds' A' R' D' => kc m' e' w' ds' (A1.trans A') R' D') a1 F1
  | r => cases h; exact fun a F => wpIn_seq (wx (fun m1 e1 w1 ds1 A1 R1 D1 => kc m1 e1 w1 ds1 A1 R1 D1) a F)
  | x i => cases h; exact fun a F => wpIn_seq (wx (fun m1 e1 w1 ds1 A1 R1 D1 => kc m1 e1 w1 ds1 A1 R1 D1) a F)
 | scope c =>
  simp only [dl] at h
  cases inr with
  | true => simp at h
  | false =>
   have hro' : ro = none := by
    cases ro with
    | none => rfl
    | some l => cases hro
   subst hro'
   cases hmk : st.mrk with
   | some k0 => simp [hmk] at h
   | none =>
    rw [hmk] at D
    have D : ds = [] := D
    subst D
    simp only [hmk, Option.bind_eq_bind, Option.bind_eq_some_iff, gu_eq, Option.some.injEq, Prod.mk.injEq] at h
    obtain ⟨⟨x1, st1⟩, h1, _, hn1, rfl, rfl⟩ := h
    refine te (SR f n lo false c st x1 st1 h1 hls none rfl mm (Exit.noGoto Q) m e w w0 [] (by rw [hmk]; rfl) R I (fun m1 e1 w1 ds1 A1 R1 D1 => ?_))
    have := kc m1 e1 w1 ds1 A1 R1 D1
    cases x1 <;> exact this
 | block i c =>
  simp only [dl, Option.bind_eq_bind, Option.bind_eq_some_iff] at h
  obtain ⟨⟨x1, st1⟩, h1, h⟩ := h
  simp only at h
  have wx := SR f n lo inr c st x1 st1 h1 hls ro hro mm (Exit.inBlock i Q) m e w w0 ds D R I
  refine fun a F => wpIn_block (wx (fun m1 e1 w1 ds1 A1 R1 D1 => ?_) a F)
  cases x1 with
  | n => cases h; exact kc m1 e1 w1 ds1 A1 R1 D1
  | r => cases h; exact kc m1 e1 w1 ds1 A1 R1 D1
  | x j =>
   simp only at h
   intro a2 F2
   show Exit.inBlock i Q (.exit j) a2 w1
   cases hji : Nat.beq j i with
   | true =>
    rw [hji] at h
    cases h
    have hj := Nat.eq_of_beq_eq_true hji
    subst hj
    simp only [Exit.inBlock, if_true]
    exact kc m1 e1 w1 ds1 A1 R1 D1 a2 F2
   | false =>
    rw [hji] at h
    cases h
    simp only [Exit.inBlock, if_neg (gJ hji)]
    exact kc m1 e1 w1 ds1 A1 R1 D1 a2 F2
 | cond y a b =>
  simp only [dl, Option.bind_eq_bind, Option.bind_eq_some_iff] at h
  obtain ⟨V, hV, b', hb', h⟩ := h
  obtain ⟨v, h1, h2⟩ := ay R hV
  cases nW hb' h2
  intro a2 F2
  have hev := F2.bare.ev h1
  cases b' with
  | true => exact wpIn_cond_true hev (SR f n lo inr a st x st' h hls ro hro mm Q m e w w0 ds D R I kc a2 F2)
  | false => exact wpIn_cond_false hev (SR f n lo inr b st x st' h hls ro hro mm Q m e w w0 ds D R I kc a2 F2)
 | loop c =>
  obtain ⟨N, hN⟩ := loopN f n lo inr c st x st' h0 hls
  exact fun a F => wpIn_loop_rounds N (hN ro hro mm Q m e w w0 ds D R I kc a F)
 | region id ops draw =>
  simp only [dl] at h
  have CO := p4 K OO SR k
  cases draw with
  | false =>
   simp only [Option.bind_eq_bind, Option.bind_eq_some_iff, Option.some.injEq, Prod.mk.injEq] at h
   obtain ⟨⟨E2, H2, s2⟩, h1, rfl, rfl⟩ := h
   refine qZ (iJ (ro := ro) K CO (fun hn => ?_) (fun hn a b c d e => ?_) ops.toList h1 hls R I (fun m' e' w' A R' => kc m' e' w' ds A R' (D.le (I.le A.ext))))
   ·subst hn
    have hi : inr = false := hro
    subst hi
    exact yld_ok SR
   have hi : inr = true := by
    cases ro with
    | none => exact absurd rfl hn
    | some l => exact hro
   subst hi
   rfl
  | true =>
   simp only [Option.bind_eq_bind, Option.bind_eq_some_iff, Option.some.injEq, Prod.mk.injEq, gu_eq] at h
   obtain ⟨t1, ht1, t, ht, _, hreg, ⟨E2, H2, s2⟩, h1, rfl, rfl⟩ := h
   refine wx_draw hm hreg (G := fun e' w' => ∃ m', Aft w0 lo m st.s m' H2 w' s2 ∧ ER m' E2 e') (ov K CO hls t false st.s h1 (Nat.le_refl _) (fun hh => absurd hh (Nat.lt_irrefl _)) R (I.no (Ch.drew w)) (fun _ x hx => hx) (fun m' e' w' g1 g2 g3 g4 => fun a F => ⟨rfl, e', F, m', ⟨g1, g2, g4⟩, g3⟩)) (fun e' w' ⟨m', A, R'⟩ => kc m' e' w' ds A R' (D.le (I.le A.ext)))
 | rangeFunc g ps assign body =>
  cases inr with
  | true => simp [dl] at h
  | false =>
   have hro' : ro = none := by
    cases ro with
    | none => rfl
    | some l => cases hro
   subst hro'
   cases k with
   | zero =>
    exfalso
    simp only [dl] at h
    split at h
    ·cases h
    simp only [Option.bind_eq_bind, Option.bind_eq_some_iff] at h
    obtain ⟨v, _, q, _, _, _, r, hr, _⟩ := h
    simp [fK] at hr
   | succ j => exact range_x K SR h hls D R I kc
 | _ => simp [dl] at h
theorem lN (K : TabOK P T) (OO : pY P T) (hm : P.follows .mixedOrders = true) : ∀ k, lJ P T k ∧ pX P T k
 | 0 => ⟨fun f n lo inr c st x st' h => by simp [run] at h, fun f n lo inr c st x st' h => by simp [run] at h⟩
 | k + 1 => q4 K OO hm (lN K OO hm k).1 (lN K OO hm k).2
end
end Go.Gx.Rx
namespace Go.Gx.Rx
open Go.RowKit Go.Gx
section
variable {P : Program} {w0 w : World} {lo s : Nat} {m : M} {Hp : H}
theorem lO (m : M) : ∀ b : List UInt8, cvs m (ex (ofB b)) = some (b.map u8v) := fun b => by
 rw [ll]
 induction b with
 | nil => rfl
 | cons a r ih => exact cvs_cons.2 ⟨_, _, rfl, ih, rfl⟩
theorem lP (m : M) : ∀ l : List (BitVec 32), cvs m (ex (l.map fun x => ((1 : Nat), C.i .u32 (x.toNat : Int)))) = some (l.map aO)
 | [] => rfl
 | x :: r => by
  rw [List.map_cons, bU]
  exact cvs_cons.2 ⟨_, _, rfl, lP m r, rfl⟩
theorem sum_orc {f : Nat} (hent : Ent P f) (hc : ∀ {w : World} {A : Option Addr} {l c : Nat} {F : Nat → Prop} {b : List UInt8}, Sl w F u8v A l c b → l ≤ 1099511627776 → Sl w (fun k => k = 0) aO (some ⟨0, 0, none⟩) 64 64 Go.Plain.rk → Calls P f #[.slice A l c] w fun e w' => e = .returned (.agg ((Go.Plain.shaF b).map u8v).toArray) ∧ Ch No w w')
  {vs : List V} {V : V} {Hp' : H} {s' : Nat} (h : lK vs lo Hp s = some (V, Hp', s')) {args : List Value} (gl : ∀ g, Nat.blt g 4 = true → m g = some (g, 0)) (I : Inv w0 lo m Hp w s) (hv : vvs m vs = some args) : eE P f args w (Cr w0 lo m s V Hp' s') := by
 unfold lK at h
 split at h
 ·rename_i v
  simp only [Option.bind_eq_bind, Option.bind_eq_some_iff, Option.some.injEq, Prod.mk.injEq, gu_eq] at h
  obtain ⟨c, hcc, b0, hb0, u, hrk, n, hn, _, hlt, l, hl, b, hb, rfl, rfl, rfl⟩ := h
  obtain ⟨vv1, us, h1, h2, rfl⟩ := vvs_cons.1 hv
  simp only [vvs, Option.some.injEq] at h2
  subst h2
  have hlt : n < 1000000 := by simpa [Nat.blt_eq] using hlt
  obtain ⟨A, cp, cs, rfl, hcp, g1, g2, _, g3⟩ := fC (S := fun x => x = w) hl (cU hcc h1) hn rfl (fun x hx => by rw [hx]; exact I.hr)
  have hcs := fB g1 (lu hb m)
  subst hcs
  have hrnd : Sl w (fun k => k = 0) aO (some ⟨0, 0, none⟩) 64 64 Go.Plain.rk := by
   unfold isRk at hrk
   split at hrk
   ·rename_i l0
    have := eF (gu_eq.1 hrk)
    subst this
    obtain ⟨q, k1, ws, k2, k3⟩ := I.live 0 _ hb0
    have h0 := gl 0 rfl
    rw [k1] at h0
    cases h0
    have := fB k2 (lP m Go.Plain.rk)
    subst this
    exact ⟨.inr ⟨0, 0, rfl, rfl, k3⟩, rfl, Nat.le_refl _⟩
   cases hrk
  have hsl : Sl w (fun _ => True) u8v A n cp b := ⟨g3 w rfl, by simpa using g2, hcp⟩
  refine .inl ⟨hent, (hc hsl (by omega) hrnd).mono ?_⟩
  rintro ed w' ⟨rfl, hch⟩
  exact ⟨m, _, rfl, ⟨Nat.le_refl _, Ext.refl, I.no hch⟩, by simp [vv, lO]⟩
 cases h
theorem tf {f : Nat} {k : IntKind} (hc : ∀ {a : Addr} {x : Int} {w : World}, w.cell? a = some (.int k x) → (callFunc f #[.pointer (some a)]).run P w = .ok (.value (.int k x)) w)
  {vs : List V} {V : V} {Hp' : H} {s' : Nat} (h : iZ k vs lo Hp s = some (V, Hp', s')) {args : List Value} (I : Inv w0 lo m Hp w s) (hv : vvs m vs = some args) : eE P f args w (Cr w0 lo m s V Hp' s') := by
 unfold iZ at h
 split at h
 ·rename_i v
  simp only [Option.bind_eq_bind, Option.bind_eq_some_iff] at h
  obtain ⟨p, hp, l, hl, h⟩ := h
  obtain ⟨vv1, us, h1, h2, rfl⟩ := vvs_cons.1 hv
  simp only [vvs, Option.some.injEq] at h2
  subst h2
  obtain ⟨q, h3, rfl, _⟩ := da hp h1
  split at h
  ·rename_i k' z
   simp only [Option.bind_eq_some_iff, gu_eq, Option.some.injEq, Prod.mk.injEq] at h
   obtain ⟨_, hk, rfl, rfl, rfl⟩ := h
   have hk := of_decide_eq_true hk
   subst hk
   obtain ⟨cs, g1, g2, g3⟩ := fW hl h3 I.hr
   cases g1
   have hcell : w.cell? ⟨q.1, p.2, none⟩ = some (.int k' z) := by have := g3 0 _ rfl; simpa using this
   exact .inr ⟨_, w, hc hcell, m, _, rfl, Aft.refl I, rfl⟩
  cases h
 cases h
theorem set_one {cs : Array Value} {o : Nat} {v : Value} (h : o < cs.size) : (cs.setIfInBounds o v).toList = cs.toList.take o ++ [v] ++ cs.toList.drop (o + [v].length) := by
 have ho : o < cs.toList.length := by simpa using h
 rw [Array.toList_setIfInBounds, List.set_eq_take_append_cons_drop, if_pos ho]
 simp
theorem fY {id o : Nat} {k : IntKind} {z : Int} {Hp' : H} (h : wrc Hp lo id o [(1, .i k z)] = some Hp') (I : Inv w0 lo m Hp w s) {q : Nat × Nat} (hq : m id = some q) :
  (∃ u, w.cell? ⟨q.1, o, none⟩ = some u) ∧ w.frozen? ⟨q.1, o, none⟩ = false ∧ Aft w0 lo m s m Hp' (w.setCell ⟨q.1, o, none⟩ (.int k z)) s := by
 obtain ⟨t, cs, b1, b2, b3, b4⟩ := lE h I hq (us := [.int k z]) rfl
 have ho : o < cs.size := by simp at b2; omega
 exact ⟨⟨cs[o], b1.cell (by simp [ho])⟩, b1.free o, b4 _ _ (b1.set o _) (set_one ho) (Ch.setCell w ⟨q.1, o, none⟩ _)⟩
theorem q6 {f : Nat} {k : IntKind} (hc : ∀ {a : Addr} {y : Int} {u : Value} {w : World}, w.cell? a = some u → w.frozen? a = false → (callFunc f #[.pointer (some a), .int k y]).run P w = .ok (.value (.tuple #[])) (w.setCell a (.int k y)))
  {vs : List V} {V : V} {Hp' : H} {s' : Nat} (h : gM k vs lo Hp s = some (V, Hp', s')) {args : List Value} (I : Inv w0 lo m Hp w s) (hv : vvs m vs = some args) : eE P f args w (Cr w0 lo m s V Hp' s') := by
 unfold gM at h
 split at h
 ·rename_i v u
  simp only [Option.bind_eq_bind, Option.bind_eq_some_iff, gu_eq, Option.some.injEq, Prod.mk.injEq] at h
  obtain ⟨p, hp, kz, hkz, _, hk, Hp2, hw, rfl, rfl, rfl⟩ := h
  obtain ⟨v1, us, h1, h2, rfl⟩ := vvs_cons.1 hv
  obtain ⟨v2, us2, h3, h4, rfl⟩ := vvs_cons.1 h2
  simp only [vvs, Option.some.injEq] at h4
  subst h4
  obtain ⟨q, h5, rfl, _⟩ := da hp h1
  cases eD hkz h3
  have hk := of_decide_eq_true hk
  obtain ⟨k', z⟩ := kz
  simp only at hk
  subst hk
  obtain ⟨⟨u, hu⟩, hz, A⟩ := fY hw I h5
  exact .inr ⟨_, _, hc hu hz, m, _, rfl, A, rfl⟩
 cases h
theorem add_orc {f : Nat} {k : IntKind} (hc : ∀ {a : Addr} {x y s : Int} {w : World}, w.cell? a = some (.int k x) → w.frozen? a = false → (Op.intArith .add k x y).run P w = .ok (.int k s) w → (callFunc f #[.pointer (some a), .int k y]).run P w = .ok (.value (.int k s)) (w.setCell a (.int k s)))
  {vs : List V} {V : V} {Hp' : H} {s' : Nat} (h : lL k vs lo Hp s = some (V, Hp', s')) {args : List Value} (I : Inv w0 lo m Hp w s) (hv : vvs m vs = some args) : eE P f args w (Cr w0 lo m s V Hp' s') := by
 unfold lL at h
 split at h
 ·rename_i v u
  simp only [Option.bind_eq_bind, Option.bind_eq_some_iff, gu_eq] at h
  obtain ⟨p, hp, kz, hkz, _, hk, l, hl, h⟩ := h
  obtain ⟨v1, us, h1, h2, rfl⟩ := vvs_cons.1 hv
  obtain ⟨v2, us2, h3, h4, rfl⟩ := vvs_cons.1 h2
  simp only [vvs, Option.some.injEq] at h4
  subst h4
  obtain ⟨q, h5, rfl, _⟩ := da hp h1
  cases eD hkz h3
  have hk := of_decide_eq_true hk
  obtain ⟨k', z⟩ := kz
  simp only at hk
  subst hk
  split at h
  ·rename_i k2 x
   simp only [Option.bind_eq_some_iff, gu_eq, Option.some.injEq, Prod.mk.injEq] at h
   obtain ⟨_, hk2, Hp2, hw, rfl, rfl, rfl⟩ := h
   have hk2 := of_decide_eq_true hk2
   subst hk2
   obtain ⟨cs, g1, g2, g3⟩ := fW hl h5 I.hr
   cases g1
   have hcell : w.cell? ⟨q.1, p.2, none⟩ = some (.int k2 x) := by have := g3 0 _ rfl; simpa using this
   obtain ⟨_, hz, A⟩ := fY hw I h5
   exact .inr ⟨_, _, hc hcell hz (by simp [Op.intArith]), m, _, rfl, A, rfl⟩
  cases h
 cases h
theorem tg {f f0 : Nat} (hent : Ent P f) (hent0 : Ent P f0) (hc : ∀ (b off : Nat) (lb : Array Value) (w : World) (B : World → Prop), w.cell? ⟨b, off, none⟩ = some (.int .u32 0) → w.cell? ⟨b, off + 1, none⟩ = some (.int .i32 0) → w.frozen? ⟨b, off, none⟩ = false → w.frozen? ⟨b, off + 1, none⟩ = false →
      (Calls P f0 lb (w.setCell ⟨b, off + 1, none⟩ (.int .i32 1)) fun e W => e = .returned (.tuple #[]) ∧ B W) → (∀ W, B W → W.cell? ⟨b, off, none⟩ = some (.int .u32 0) ∧ W.cell? ⟨b, off + 1, none⟩ = some (.int .i32 1) ∧ W.frozen? ⟨b, off, none⟩ = false ∧ W.frozen? ⟨b, off + 1, none⟩ = false) →
      Calls P f #[.pointer (some ⟨b, off, none⟩), .func (.func f0) #[] lb] w fun e w' => e = .returned (.tuple #[]) ∧ ∃ W, B W ∧ w' = (W.drew.setCell ⟨b, off, none⟩ (.int .u32 1)).setCell ⟨b, off + 1, none⟩ (.int .i32 0))
    {call : Nat → List V → Nat → H → Nat → R} (CO : fk P call) {vs : List V} {V : V} {Hp' : H} {s' : Nat} (h : i5 f0 call vs lo Hp s = some (V, Hp', s')) {args : List Value} (hls : lo ≤ s) (gl : ∀ g, Nat.blt g 4 = true → m g = some (g, 0)) (I : Inv w0 lo m Hp w s) (hv : vvs m vs = some args) : eE P f args w (Cr w0 lo m s V Hp' s') := by
  unfold i5 at h
  split at h
  · rename_i v f' caps
    simp only [Option.bind_eq_bind, Option.bind_eq_some_iff, gu_eq] at h
    obtain ⟨_, hf, p, hp, l, hl, h⟩ := h
    have hf := Nat.eq_of_beq_eq_true hf
    subst hf
    obtain ⟨v1, us, h1, h2, rfl⟩ := vvs_cons.1 hv
    obtain ⟨v2, us2, h3, h4, rfl⟩ := vvs_cons.1 h2
    simp only [vvs, Option.some.injEq] at h4
    subst h4
    obtain ⟨q, h5, rfl, _⟩ := da hp h1
    simp only [vv, cv, Option.bind_eq_bind, Option.bind_eq_some_iff, Option.some.injEq] at h3
    obtain ⟨cs, h6, rfl⟩ := h3
    split at h
    · rename_i x y
      simp only [Option.bind_eq_some_iff, gu_eq, Bool.and_eq_true] at h
      obtain ⟨_, ⟨hx, hy⟩, Hp1, hw1, ⟨r, Hp2, s2⟩, hcall, l2, hl2, h⟩ := h
      have hx := of_decide_eq_true hx
      have hy := of_decide_eq_true hy
      subst hx hy
      simp only at hl2 h
      obtain ⟨cs0, g1, g2, g3⟩ := fW hl h5 I.hr
      cases g1
      have hc0 : w.cell? ⟨q.1, p.2, none⟩ = some (.int .u32 0) := by have := g3 0 _ rfl; simpa using this
      have hc1 : w.cell? ⟨q.1, p.2 + 1, none⟩ = some (.int .i32 0) := g3 1 _ rfl
      obtain ⟨_, hz1, A1⟩ := fY hw1 I h5
      split at h
      · rename_i x y
        simp only [Option.bind_eq_some_iff, gu_eq, Bool.and_eq_true, Option.some.injEq, Prod.mk.injEq] at h
        obtain ⟨_, ⟨hx, hy⟩, Hp3, hw3, Hp4, hw4, rfl, rfl, rfl⟩ := h
        have hx := of_decide_eq_true hx
        have hy := of_decide_eq_true hy
        subst hx hy
        have hz0 : w.frozen? ⟨q.1, p.2, none⟩ = false := by
          simp only [wrc, Option.bind_eq_bind, Option.bind_eq_some_iff, gu_eq] at hw1
          obtain ⟨_, _, b, hb, hw1⟩ := hw1
          split at hw1
          · obtain ⟨q', k1, zs, k2, k3⟩ := I.live _ _ hb
            rw [h5] at k1; cases k1
            exact k3.free _
          cases hw1
        have hco := CO _ _ _ _ _ _ _ _ hcall m _ w0 cs hls gl A1.inv (gK h6)
        have hcalls : Calls P f' cs.toArray (w.setCell ⟨q.1, p.2 + 1, none⟩ (.int .i32 1)) (Cr w0 lo m s (.t []) Hp2 s2) := by
          rcases hco with ⟨_, h⟩ | ⟨v, w', hrun, _⟩
          · exact h
          rw [dW hent0] at hrun
          cases hrun
        refine .inl ⟨hent, (hc q.1 p.2 cs.toArray w (fun W => ∃ m', Aft w0 lo m s m' Hp2 W s2) hc0 hc1 hz0 hz1 (hcalls.mono ?_) ?_).mono ?_⟩
        · rintro ed W ⟨m', v, rfl, A, hvv⟩
          cases hvv
          exact ⟨rfl, m', A⟩
        · rintro W ⟨m', A⟩
          have h5' : m' p.1 = some q := by rw [A.ext _ (I.id_lt h5)]; exact h5
          obtain ⟨cs1, k1, k2, k3⟩ := fW hl2 h5' A.inv.hr
          cases k1
          obtain ⟨_, hz3, A3⟩ := fY hw3 A.inv h5'
          obtain ⟨_, hz4, A4⟩ := fY hw4 A3.inv h5'
          refine ⟨by have := k3 0 _ rfl; simpa using this, k3 1 _ rfl, hz3, ?_⟩
          simp only [wrc, Option.bind_eq_bind, Option.bind_eq_some_iff, gu_eq] at hw3
          obtain ⟨_, _, b, hb, hw3⟩ := hw3
          split at hw3
          · obtain ⟨q', j1, zs, j2, j3⟩ := A.inv.live _ _ hb
            rw [h5'] at j1; cases j1
            exact j3.free _
          cases hw3
        rintro ed w' ⟨rfl, W, ⟨m', A⟩, rfl⟩
        have h5' : m' p.1 = some q := by rw [A.ext _ (I.id_lt h5)]; exact h5
        have I3 := A.inv.no (Ch.drew W)
        obtain ⟨_, _, A3⟩ := fY hw3 I3 h5'
        obtain ⟨_, _, A4⟩ := fY hw4 A3.inv h5'
        exact ⟨m', _, rfl, ⟨A.le, A.ext, A4.inv⟩, rfl⟩
      cases h
    cases h
  cases h
end
/-! ### The run, piece by piece -/
def jH : Option (X × St) → St → Bool
 | some (.n, st), l => qI l.E st.E && nT 24 l.H st.H && Nat.ble st.s l.s && st.mrk.isNone
 | _, _ => false
section
variable {P : Program} {T : Tab} {n mm : Nat} {w0 w : World} {lo : Nat} {m : M} {e : Env} {Q : Exit → Act → World → Prop}
theorem lQ {k f : Nat} {a b : Code} {st l : St} (hc : jH (run T k f n lo false a st) l = true) (SR : lJ P T k) (hls : lo ≤ st.s) (hmk : st.mrk = none) (R : ER m st.E e) (I : Inv w0 lo m st.H w st.s) (kb : ∀ m' e' w', ER m' l.E e' → Inv w0 lo m' l.H w' l.s → WX P Q n mm none [] b e' w') : WX P Q n mm none [] (.seq a b) e w := by
 unfold jH at hc
 split at hc
 ·rename_i st1 hr
  simp only [Bool.and_eq_true] at hc
  obtain ⟨⟨⟨h1, h2⟩, h3⟩, h4⟩ := hc
  refine fun c F => wpIn_seq (SR f n lo false a st .n st1 hr hls none rfl mm (Exit.then (b.wpIn (FW none) mm P Q) Q) m e w w0 [] (by rw [hmk]; rfl) R I (fun m1 e1 w1 ds1 A1 R1 D1 => fun a1 F1 => ?_) c F)
  rw [Option.isNone_iff_eq_none.1 h4] at D1
  have D1 : ds1 = [] := D1
  subst D1
  exact kb m1 e1 w1 (R1.sub h1) ((A1.inv.sub (fun id b hb => iY h2 hb)).up (Nat.le_of_ble_eq_true h3)) a1 F1
 cases hc
end
/-! ### Tables -/
def Tr.list {α : Type} : Nat → Tr α → List (Nat × α)
 | 0, _ => []
 | _ + 1, .nil => []
 | d + 1, .nd l x r => (match x with | some a => [(0, a)] | none => []) ++ ((Tr.list d l).map fun q => (2 * q.1, q.2)) ++ ((Tr.list d r).map fun q => (2 * q.1 + 1, q.2))
theorem Tr.get_mem {α : Type} : ∀ (d : Nat) (t : Tr α) (k : Nat) (x : α), Tr.get d t k = some x → (k, x) ∈ Tr.list d t
 | 0, t, k, x, h => by simp [Tr.get] at h
 | d + 1, .nil, k, x, h => by simp [Tr.get] at h
 | d + 1, .nd l y r, k, x, h => by
  simp only [Tr.get] at h
  simp only [Tr.list]
  split at h
  ·rename_i hk
   have hk := Nat.eq_of_beq_eq_true hk
   subst hk h
   simp
  split at h
  ·rename_i hk hk2
   have h1 := Tr.get_mem d l (k / 2) x h
   have hk2 := Nat.eq_of_beq_eq_true hk2
   refine List.mem_append_left _ (List.mem_append_right _ (List.mem_map.2 ⟨_, h1, ?_⟩))
   simp only [Prod.mk.injEq, and_true]; omega
  rename_i hk hk2
  have h1 := Tr.get_mem d r (k / 2) x h
  have hk2 := gJ hk2
  refine List.mem_append_right _ (List.mem_map.2 ⟨_, h1, ?_⟩)
  simp only [Prod.mk.injEq, and_true]; omega
theorem Tr.all_of {α : Type} {d : Nat} {t : Tr α} {p : Nat → α → Bool} (h : (Tr.list d t).all (fun q => p q.1 q.2) = true) {k : Nat} {x : α} (hk : Tr.get d t k = some x) : p k x = true := List.all_eq_true.1 h _ (Tr.get_mem d t k x hk)
def p5 (P : Program) : List (Nat × Nat) → List Field → Bool
 | [], [] => true
 | (o, ft) :: r, f :: fs => Nat.beq f.offset o && Nat.beq f.type ft && (P.info? ft).isSome && p5 P r fs
 | _, _ => false
def eK (P : Program) (t : Nat) : TD → Bool
 | .int k => match P.underlying t with
  | some (.int k') => decide (k' = k)
  | _ => false
 | .bool => match P.underlying t with
  | some .bool => true
  | _ => false
 | .str => match P.underlying t with
  | some .string => true
  | _ => false
 | .ptr e => match P.underlying t with
  | some (.pointer e') => Nat.beq e' e
  | _ => false
 | .slice e => match P.underlying t with
  | some (.slice e') => Nat.beq e' e
  | _ => false
 | .arr n e => match P.underlying t with
  | some (.array n' e') => Nat.beq n' n && Nat.beq e' e && !(P.eqGuardType P.depth t)
  | _ => false
 | .struct fs => match P.underlying t with
  | some (.struct fields) => Nat.beq fs.length fields.size && p5 P fs fields.toList
  | _ => false
 | .map k e => match P.underlying t with
  | some (.map k' e') => Nat.beq k' k && Nat.beq e' e
  | _ => false
 | .fn => match P.underlying t with
  | some (.func _ _ _) => true
  | _ => false
theorem nj {P : Program} : ∀ {fs : List (Nat × Nat)} {fields : List Field}, p5 P fs fields = true → ∀ (i o ft : Nat), fs[i]? = some (o, ft) → ∃ f : Field, fields[i]? = some f ∧ f.offset = o ∧ f.type = ft ∧ ∃ k, (P.info? ft).map (·.size) = some k
 | [], [], _, i, o, ft, h => by simp at h
 | (o, ft) :: r, f :: fs, hc, i, o', ft', h => by
  simp only [p5, Bool.and_eq_true] at hc
  obtain ⟨⟨⟨h1, h2⟩, h3⟩, h4⟩ := hc
  cases i with
  | zero =>
   simp only [List.getElem?_cons_zero, Option.some.injEq, Prod.mk.injEq] at h
   obtain ⟨rfl, rfl⟩ := h
   refine ⟨f, rfl, Nat.eq_of_beq_eq_true h1, Nat.eq_of_beq_eq_true h2, ?_⟩
   obtain ⟨i', hi⟩ := Option.isSome_iff_exists.1 h3
   exact ⟨i'.size, by rw [hi]; rfl⟩
  | succ i =>
   simpa using nj h4 i o' ft' (by simpa using h)
theorem th {P : Program} {t : Nat} {d : TD} (h : eK P t d = true) : TyOK P t d := by
 cases d with
 | int k =>
  simp only [eK] at h
  split at h
  ·rename_i hu; rw [of_decide_eq_true h] at hu; exact hu
  cases h
 | bool =>
  simp only [eK] at h
  split at h
  ·rename_i hu; exact hu
  cases h
 | str =>
  simp only [eK] at h
  split at h
  ·rename_i hu; exact hu
  cases h
 | ptr e =>
  simp only [eK] at h
  split at h
  ·rename_i hu; rw [Nat.eq_of_beq_eq_true h] at hu; exact hu
  cases h
 | slice e =>
  simp only [eK] at h
  split at h
  ·rename_i hu; rw [Nat.eq_of_beq_eq_true h] at hu; exact hu
  cases h
 | arr n e =>
  simp only [eK] at h
  split at h
  ·rename_i hu
   simp only [Bool.and_eq_true, Bool.not_eq_true'] at h
   rw [Nat.eq_of_beq_eq_true h.1.1, Nat.eq_of_beq_eq_true h.1.2] at hu
   exact ⟨hu, h.2⟩
  cases h
 | struct fs =>
  simp only [eK] at h
  split at h
  ·rename_i hu
   simp only [Bool.and_eq_true] at h
   refine ⟨_, hu, Nat.eq_of_beq_eq_true h.1, fun i o ft hf => ?_⟩
   obtain ⟨f, h1, h2⟩ := nj h.2 i o ft hf
   exact ⟨f, by simpa using h1, h2⟩
  cases h
 | map k e =>
  simp only [eK] at h
  split at h
  ·rename_i hu
   simp only [Bool.and_eq_true] at h
   rw [Nat.eq_of_beq_eq_true h.1, Nat.eq_of_beq_eq_true h.2] at hu; exact hu
  cases h
 | fn =>
  simp only [eK] at h
  split at h
  ·rename_i hu; exact ⟨_, _, _, hu⟩
  cases h
def p6 (P : Program) (t n : Nat) : Bool := match P.info? t with
 | some i => Nat.beq i.size n
 | none => false
theorem ti {P : Program} {t n : Nat} (h : p6 P t n = true) : (P.info? t).map (·.size) = some n := by
 unfold p6 at h
 split at h
 ·rename_i i hi; rw [hi, Option.map_some, Nat.eq_of_beq_eq_true h]
 cases h
def p7 (P : Program) (t n : Nat) : Bool := match P.info? t with
 | some i => Nat.beq i.bytes n
 | none => false
theorem tj {P : Program} {t n : Nat} (h : p7 P t n = true) : (P.info? t).map (·.bytes) = some n := by
 unfold p7 at h
 split at h
 ·rename_i i hi; rw [hi, Option.map_some, Nat.eq_of_beq_eq_true h]
 cases h
def zeq : C → Value → Bool
 | .b x, .bool y => x == y
 | .i k z, .int k' z' => decide (k = k') && decide (z = z')
 | .s x, .string y => x == y.data.toList
 | .np, .pointer none => true
 | .ns, .slice none l c => Nat.beq l 0 && Nat.beq c 0
 | .nm, .map none => true
 | .nf, .nilFunc => true
 | _, _ => false
def tl : List C → List Value → Bool
 | [], [] => true
 | c :: r, v :: t => zeq c v && tl r t
 | _, _ => false
theorem zeq_of {c : C} {v : Value} (h : zeq c v = true) (m : M) : cv1 m c = some v := by
 unfold zeq at h
 split at h
 ·rw [beq_iff_eq.1 h]; rfl
 ·simp only [Bool.and_eq_true, decide_eq_true_eq] at h
  rw [h.1, h.2]; rfl
 ·rw [beq_iff_eq.1 h]; simp [cv1, cv, rP]
 ·rfl
 ·simp only [Bool.and_eq_true] at h
  rw [Nat.eq_of_beq_eq_true h.1, Nat.eq_of_beq_eq_true h.2]; rfl
 ·rfl
 ·rfl
 cases h
theorem p8 : ∀ {l : List C} {vs : List Value}, tl l vs = true → ∀ m, cvs m l = some vs
 | [], [], _, m => rfl
 | c :: r, v :: t, h, m => by
  simp only [tl, Bool.and_eq_true] at h
  exact cvs_cons.2 ⟨v, t, zeq_of h.1 m, p8 h.2 m, rfl⟩
def tn (P : Program) (ty : Tr TD) (t : Nat) (z : L) : Bool := match P.info? t with
 | some i => match i.zero with
  | some v => tl (ex z) v.cells.toList && (match Tr.get 16 ty t with | some td => v.oneCell' == mM td | none => true)
  | none => false
 | none => false
theorem tab_ok {P : Program} {T : Tab} (h1 : (Tr.list 16 T.ty).all (fun q => eK P q.1 q.2) = true) (h2 : (Tr.list 16 T.sz).all (fun q => p6 P q.1 q.2) = true) (h3 : (Tr.list 16 T.by_).all (fun q => p7 P q.1 q.2) = true) (h4 : (Tr.list 16 T.zr).all (fun q => tn P T.ty q.1 q.2) = true)
  (h5 : ∀ f fn, Tr.get 16 T.fn f = some fn → P.funcs[f]? = some fn ∧ (fn.name == "runtime.NumGoroutine") = false) : TabOK P T := by
 have key : ∀ t z, T.zero t = some z → ∃ i v, P.info? t = some i ∧ i.zero = some v ∧ tl (ex z) v.cells.toList = true ∧ ∀ td, T.typ t = some td → v.oneCell' = mM td := fun t z hz => by
  have h := Tr.all_of (p := tn P T.ty) h4 hz
  unfold tn at h
  split at h
  ·rename_i i hi
   split at h
   ·rename_i v hv
    simp only [Bool.and_eq_true] at h
    refine ⟨i, v, hi, hv, h.1, fun td htd => ?_⟩
    have h2 := h.2
    rw [show Tr.get 16 T.ty t = some td from htd] at h2
    exact beq_iff_eq.1 h2
   cases h
  cases h
 refine ⟨fun t d h => th (Tr.all_of (p := eK P) h1 h), fun t n h => ti (Tr.all_of (p := p6 P) h2 h), fun t z hz => ?_, fun t td z v htd hz hv => ?_, fun t n h => tj (Tr.all_of (p := p7 P) h3 h), h5⟩
 ·obtain ⟨i, v, hi, hv, hq, _⟩ := key t z hz
  exact ⟨v, v.cells.toList, by rw [hi, Option.map_some, hv], by simp, p8 hq⟩
 obtain ⟨i, v', hi, hv', _, hf⟩ := key t z hz
 rw [hi, Option.map_some, hv'] at hv
 cases hv
 exact hf td htd
end Go.Gx.Rx
