/-
  Own text: maps of whole numbers to pointers, as lists of entries: lookups, new keys, deletions, new maps; records in memory. Over any program.
-/
import Derived.Test.YtcgapjieidmkpaaDoorGxAgg
import Derived.MapKept
import Derived.Maps.RangeRun
set_option linter.unusedVariables false
namespace Go.Gx
open Go.RowKit

/-- A pointer's value: to the begin of block b. -/
abbrev ptr (b : Nat) : Value := .pointer (some ⟨b, 0, none⟩)
/-- An entry: its key, the block that it leads to, when it came. -/
abbrev KE := Nat × Nat × Nat
def entV (e : KE) : MapEntry := ⟨i64 (e.1 : Int), ptr e.2.1, e.2.2⟩
/-- The stamps of entries: each its own, all before the map's clock. -/
def Born (l : List KE) (clock : Nat) : Prop := (l.map (·.2.2)).Nodup ∧ ∀ e ∈ l, e.2.2 < clock
theorem Born.nil : Born [] 0 := ⟨List.nodup_nil, fun _ h => by cases h⟩
theorem Born.push {l : List KE} {c k b : Nat} (h : Born l c) : Born (l ++ [(k, b, c)]) (c + 1) := by
  refine ⟨?_, fun e he => ?_⟩
  · rw [List.map_append, List.nodup_append]
    refine ⟨h.1, by simp, fun a ha b' hb => ?_⟩
    obtain ⟨e, he, rfl⟩ := List.mem_map.1 ha
    have := h.2 e he
    simp at hb
    omega
  · rcases List.mem_append.1 he with he | he
    · have := h.2 e he; omega
    · simp at he; subst he; simp
theorem Born.filter {l : List KE} {c : Nat} {f : KE → Bool} (h : Born l c) : Born (l.filter f) c :=
  ⟨h.1.sublist (List.filter_sublist.map _), fun e he => h.2 e (List.mem_filter.1 he).1⟩
/-- Block g is a map of just the entries l. -/
def KV (w : World) (g : Nat) (l : List KE) (clock : Nat) : Prop := w.heap[g]? = some (.map (l.map entV).toArray clock) ∧ Born l clock
section
variable {w w' : World} {g : Nat} {l : List KE} {clock : Nat} {T : Nat → Prop}
theorem KV.lt (h : KV w g l clock) : g < w.heap.size := by
  rcases Nat.lt_or_ge g w.heap.size with hlt | hge
  · exact hlt
  · have h := h.1; rw [Array.getElem?_eq_none hge] at h; cases h
theorem KV.ch (h : KV w g l clock) (c : Ch T w w') (hn : ¬ T g) : KV w' g l clock := ⟨(c.block g h.lt hn).trans h.1, h.2⟩
theorem KV.ne {b : Nat} {t : TypeId} {cs : Array Value} (h : KV w g l clock) (hb : Blk w b t cs) : g ≠ b := fun e => by
  subst e; have h := h.1; unfold Blk at hb; rw [h] at hb; cases hb
theorem Blk.ne_of {a b : Nat} {t u : TypeId} {cs ds : Array Value} (h : Blk w a t cs) (k : Blk w b u ds) (ht : t ≠ u) : a ≠ b := fun e => by
  subst e; unfold Blk at h k; rw [h] at k; injection k with k; injection k with _ k; exact ht k
end
theorem entV_inj {a b : KE} (h : entV a = entV b) : a = b := by
  obtain ⟨k, p, c⟩ := a
  obtain ⟨k', p', c'⟩ := b
  simp only [entV, MapEntry.mk.injEq, Value.int.injEq, true_and, Value.pointer.injEq, Option.some.injEq, Addr.mk.injEq, and_true] at h
  obtain ⟨e1, e2, e3⟩ := h
  have e1' : k = k' := by omega
  subst e1' e2 e3; rfl
theorem inj_of_nodup_map {α β : Type} {f : α → β} : ∀ {l : List α}, (l.map f).Nodup → ∀ {x y : α}, x ∈ l → y ∈ l → f x = f y → x = y
  | [], _, _, _, h, _, _ => by cases h
  | a :: l, hn, x, y, hx, hy, h => by
    rw [List.map_cons, List.nodup_cons] at hn
    rcases List.mem_cons.1 hx with hx1 | hx1
    · rcases List.mem_cons.1 hy with hy1 | hy1
      · exact hx1.trans hy1.symm
      · subst hx1; exact absurd (h ▸ List.mem_map.2 ⟨y, hy1, rfl⟩) hn.1
    · rcases List.mem_cons.1 hy with hy1 | hy1
      · subst hy1; exact absurd (h ▸ List.mem_map.2 ⟨x, hx1, rfl⟩) hn.1
      · exact inj_of_nodup_map hn.2 hx1 hy1 h
theorem map_entV_inj : ∀ {l l' : List KE}, l.map entV = l'.map entV → l = l'
  | [], [], _ => rfl
  | [], _ :: _, h => by simp at h
  | _ :: _, [], h => by simp at h
  | a :: l, b :: l', h => by
    simp only [List.map_cons, List.cons.injEq] at h
    rw [entV_inj h.1, map_entV_inj h.2]
theorem KV.inj {w : World} {g : Nat} {l l' : List KE} {c c' : Nat} (h : KV w g l c) (h' : KV w g l' c') : l = l' ∧ c = c' := by
  have h := h.1
  have h' := h'.1
  rw [h] at h'
  injection h' with h'
  injection h' with h1 h2
  exact ⟨map_entV_inj (by simpa using h1), h2⟩
theorem findNow_none {k : Nat} : ∀ {l : List KE} {o : Nat}, (∀ e ∈ l, e.1 ≠ k) → Instr.findNow (.int .i64) (i64 (k : Int)) (l.map entV) o = some none
  | [], _, _ => rfl
  | e :: r, o, h => by
    have h1 : e.1 ≠ k := h e (by simp)
    have h2 : ((k : Int) == (e.1 : Int)) = false := by simp; omega
    simp only [List.map_cons, Instr.findNow, entV, Instr.sameNow, if_true, h2]
    exact findNow_none (fun x hx => h x (by simp [hx]))
theorem findNow_some {k b c : Nat} : ∀ {l r : List KE} {o : Nat}, (∀ e ∈ l, e.1 ≠ k) → Instr.findNow (.int .i64) (i64 (k : Int)) ((l ++ (k, b, c) :: r).map entV) o = some (some (o + l.length, ptr b))
  | [], r, o, _ => by simp [Instr.findNow, entV, Instr.sameNow]
  | e :: l, r, o, h => by
    have h1 : e.1 ≠ k := h e (by simp)
    have h2 : ((k : Int) == (e.1 : Int)) = false := by simp; omega
    simp only [List.cons_append, List.map_cons, Instr.findNow, entV, Instr.sameNow, if_true, h2]
    rw [findNow_some (fun x hx => h x (by simp [hx]))]
    simp only [List.length_cons]; rw [show o + 1 + l.length = o + (l.length + 1) by omega]
/-- Where a key is. -/
theorem KV.split {l : List KE} {k b : Nat} (h : ∃ c, (k, b, c) ∈ l) (hnd : (l.map (·.1)).Nodup) : ∃ c l1 l2, l = l1 ++ (k, b, c) :: l2 ∧ (∀ e ∈ l1, e.1 ≠ k) ∧ ∀ e ∈ l2, e.1 ≠ k := by
  obtain ⟨c, hc⟩ := h
  obtain ⟨l1, l2, rfl⟩ := List.append_of_mem hc
  rw [List.map_append, List.map_cons, List.nodup_append] at hnd
  obtain ⟨h1, h2, h3⟩ := hnd
  rw [List.nodup_cons] at h2
  refine ⟨c, l1, l2, rfl, fun e he e1 => ?_, fun e he e1 => ?_⟩
  · exact h3 e.1 (List.mem_map.2 ⟨e, he, rfl⟩) k (by simp) e1
  · exact h2.1 (List.mem_map.2 ⟨e, he, e1⟩)
theorem KV.uniq {l : List KE} {k b c b' c' : Nat} (h : (k, b, c) ∈ l) (h' : (k, b', c') ∈ l) (hnd : (l.map (·.1)).Nodup) : b' = b := by
  obtain ⟨c1, l1, l2, rfl, n1, n2⟩ := KV.split ⟨c, h⟩ hnd
  rcases List.mem_append.1 h' with h1 | h1
  · exact absurd rfl (n1 _ h1)
  · rcases List.mem_cons.1 h1 with h2 | h2
    · injection h2 with _ h3; injection h3
    · exact absurd rfl (n2 _ h2)
section
variable {P : Program} {Q : Exit → Act → World → Prop} {S : World → Prop} {n : Nat} {e : Env} {w : World} {rt : TypeId} {pos : String} {af : Array Edge} {gd : Option (Nat × Bool)} {d : Nat} {dst : Option Tmp} {K : Env → World → Prop}
theorem run_checkKey_int {k : TypeId} {q : IntKind} {b : Bool} {v : Int} {w : World} {N : Nat} (hk : P.underlying k = some (.int q)) : (Instr.checkKey b (N + 1) k (.int q v)).run P w = .ok () w := by
  simp [Instr.checkKey, run_underlying hk]
theorem run_findKey {k : TypeId} {w : World} {v : Value} {es : List MapEntry} {r : Option (Nat × Value)} (hk : P.underlying k = some (.int .i64)) (h : Instr.findNow (.int .i64) v es 0 = some r) : (Instr.findKey k v es).run P w = .ok r w := by
  simp [Instr.findKey, run_underlying hk, h]
theorem e_of_runV0 {o : Oper} {v : Value} {w' : World} (hd : o.dst = none) (hr : ∀ a, Fr n a e → (execOp a.eval o).run P w = .ok (.value v) w') (k : K e w') : OpE P n o e w Q K := fun a F => .inl (by
  simp only [Oper.wp, hr a F, Oper.upon, hd]
  exact ⟨_, F, k⟩)
/-- A key that is there; one that is not. -/
theorem run_lookY {t kt et : TypeId} {g k b clock : Nat} {l : List KE} {w : World} (ht : P.underlying t = some (.map kt et)) (hk : P.underlying kt = some (.int .i64)) (hm : KV w g l clock) (hb : ∃ c, (k, b, c) ∈ l) (hnd : (l.map (·.1)).Nodup) : (Instr.lookup t (.map (some g)) (i64 (k : Int)) false).run P w = .ok (ptr b) w := by
  obtain ⟨c, l1, l2, rfl, h1, _⟩ := KV.split hb hnd
  have hg : w.heap[g]? = some (.map ((l1 ++ (k, b, c) :: l2).map entV).toArray clock) := hm.1
  have hf := run_findKey (P := P) (w := w) (es := (l1 ++ (k, b, c) :: l2).map entV) hk (findNow_some (k := k) (b := b) (c := c) (l := l1) (r := l2) (o := 0) h1)
  simp only [Instr.lookup, Sem.run_bind, run_underlying ht, Result.andThen_ok, MapKept.run_getObj_map hg, Sem.run_pure, run_checkKey_int (N := 9999) hk, hf]
  simp
theorem run_lookN {t kt et : TypeId} {g k clock : Nat} {l : List KE} {w : World} (ht : P.underlying t = some (.map kt et)) (hk : P.underlying kt = some (.int .i64)) (hz : (P.info? et).map (·.zero) = some (some (.pointer none))) (hm : KV w g l clock) (hb : ∀ e ∈ l, e.1 ≠ k) : (Instr.lookup t (.map (some g)) (i64 (k : Int)) false).run P w = .ok (.pointer none) w := by
  have hg : w.heap[g]? = some (.map (l.map entV).toArray clock) := hm.1
  have hf := run_findKey (P := P) (w := w) (es := l.map entV) hk (findNow_none (k := k) (o := 0) hb)
  obtain ⟨inf, hinf, hzz⟩ := Option.map_eq_some_iff.1 hz
  simp only [Instr.lookup, Sem.run_bind, run_underlying ht, Result.andThen_ok, MapKept.run_getObj_map hg, Sem.run_pure, run_checkKey_int (N := 9999) hk, hf]
  simp [zeroValue, typeInfo, hinf, hzz]
theorem p_lookR {t : TypeId} {x i : Operand} {m k v : Value} (hx : ev e x = some m) (hi : ev e i = some k) (hr : ∀ w, S w → (Instr.lookup t m k false).run P w = .ok v w) : Pu P S n ⟨dst, .lookup t x i false, rt, pos, af, gd⟩ e v := fun a F w hw => by
  simp [execOp, F.ev hx, F.ev hi, hr w hw]
theorem ch_set {o : Obj} {g : Nat} : Ch (fun k => k = g) w { w with heap := w.heap.setIfInBounds g o } := ⟨rfl, rfl, rfl, by simp, fun k _ hn => by simp [Array.getElem?_setIfInBounds_ne (Ne.symm hn)]⟩
theorem kv_set {g clock clock' : Nat} {l l' : List KE} {es' : Array MapEntry} (h : KV w g l clock) (he : es' = (l'.map entV).toArray) (hB : Born l' clock') : KV { w with heap := w.heap.setIfInBounds g (.map es' clock') } g l' clock' := by
  subst he
  have := h.lt
  refine ⟨?_, hB⟩
  simp [this]
/-- A new key. -/
theorem e_mapNew {t kt et : TypeId} {x i y : Operand} {g k b clock : Nat} {l : List KE} (ht : P.underlying t = some (.map kt et)) (hk : P.underlying kt = some (.int .i64)) (hx : ev e x = some (.map (some g))) (hi : ev e i = some (i64 (k : Int))) (hy : ev e y = some (ptr b)) (hm : KV w g l clock) (hb : ∀ e ∈ l, e.1 ≠ k)
    (kk : ∀ w', KV w' g (l ++ [(k, b, clock)]) (clock + 1) → Ch (fun k => k = g) w w' → w'.heap.size = w.heap.size → K e w') : OpE P n ⟨none, .mapUpdate t x i y, rt, pos, af, gd⟩ e w Q K := by
  have hg : w.heap[g]? = some (.map (l.map entV).toArray clock) := hm.1
  have hf := run_findKey (P := P) (w := w) (es := l.map entV) hk (findNow_none (k := k) (o := 0) hb)
  refine e_of_run0 rfl (w' := { w with heap := w.heap.setIfInBounds g (.map ((l.map entV).toArray.push { key := i64 (k : Int), val := ptr b, born := clock }) (clock + 1)) }) (fun a F => ?_) (kk _ (kv_set hm (by
    apply Array.toList_inj.1; simp [entV]) hm.2.push) ch_set (by simp))
  have h2 : (Instr.mapUpdate t (.map (some g)) (i64 (k : Int)) (ptr b)).run P w = .ok () { w with heap := w.heap.setIfInBounds g (.map ((l.map entV).toArray.push { key := i64 (k : Int), val := ptr b, born := clock }) (clock + 1)) } := by
    simp only [Instr.mapUpdate, Sem.run_bind, run_underlying ht, Result.andThen_ok, MapKept.run_getObj_map hg, run_checkKey_int (N := 9999) hk, hf]
    exact MapKept.run_setObj_map _ hg
  simp [execOp, F.ev hx, F.ev hi, F.ev hy, h2]
/-- A key is deleted. -/
theorem e_mapDel {t kt et : TypeId} {x i : Operand} {ts : Array TypeId} {g k b clock : Nat} {l : List KE} (ht : P.underlying t = some (.map kt et)) (hts : ts[0]? = some t) (hk : P.underlying kt = some (.int .i64)) (hx : ev e x = some (.map (some g))) (hi : ev e i = some (i64 (k : Int))) (hm : KV w g l clock) (hb : ∃ c, (k, b, c) ∈ l) (hnd : (l.map (·.1)).Nodup)
    (kk : ∀ w', KV w' g (l.filter (fun e => e.1 != k)) clock → Ch (fun k => k = g) w w' → w'.heap.size = w.heap.size → K e w') : OpE P n ⟨none, .call { callee := .builtin .delete, args := #[x, i], argTypes := ts }, rt, pos, af, gd⟩ e w Q K := by
  obtain ⟨c, l1, l2, rfl, h1, h2⟩ := KV.split hb hnd
  have hg : w.heap[g]? = some (.map ((l1 ++ (k, b, c) :: l2).map entV).toArray clock) := hm.1
  have hf := run_findKey (P := P) (w := w) (es := (l1 ++ (k, b, c) :: l2).map entV) hk (findNow_some (k := k) (b := b) (c := c) (l := l1) (r := l2) (o := 0) h1)
  have hfil : (l1 ++ (k, b, c) :: l2).filter (fun e => e.1 != k) = l1 ++ l2 := by
    rw [List.filter_append, List.filter_cons]
    have e1 : l1.filter (fun e => e.1 != k) = l1 := List.filter_eq_self.2 (fun e he => by simpa using h1 e he)
    have e2 : l2.filter (fun e => e.1 != k) = l2 := List.filter_eq_self.2 (fun e he => by simpa using h2 e he)
    rw [e1, e2]; simp
  have her : ((l1 ++ (k, b, c) :: l2).map entV).toArray.eraseIdxIfInBounds l1.length = (((l1 ++ (k, b, c) :: l2).filter (fun e => e.1 != k)).map entV).toArray := by
    rw [hfil]
    apply Array.toList_inj.1
    rw [Array.toList_eraseIdxIfInBounds]
    simp [List.eraseIdx_append_of_length_le]
  refine e_of_runV0 rfl (w' := { w with heap := w.heap.setIfInBounds g (.map (((l1 ++ (k, b, c) :: l2).map entV).toArray.eraseIdxIfInBounds l1.length) clock) }) (v := .tuple #[]) (fun a F => ?_) (kk _ (kv_set hm her hm.2.filter) ch_set (by simp))
  have h3 : (Builtin.delete_ ts rt #[.map (some g), i64 (k : Int)]).run P w = .ok (.tuple #[]) { w with heap := w.heap.setIfInBounds g (.map (((l1 ++ (k, b, c) :: l2).map entV).toArray.eraseIdxIfInBounds l1.length) clock) } := by
    simp only [Builtin.delete_, hts, List.getElem?_toArray, List.getElem?_cons_zero, List.getElem?_cons_succ, Sem.run_bind, run_underlying ht, Result.andThen_ok, MapKept.run_getObj_map hg, Sem.run_pure, run_checkKey_int (N := 9999) hk, hf, Nat.zero_add, MapKept.run_setObj_map _ hg]
  simp [execOp, resolve, invoke, builtin, F.ev hx, F.ev hi, h3]
/-- A new map. -/
theorem e_mkMap {t : TypeId} (hlt : Nat.blt d n = true) (kk : ∀ w' g, g = w.heap.size → KV w' g [] 0 → Ch No w w' → w'.heap.size = g + 1 → K ((d, .map (some g)) :: e) w') : OpE P n ⟨some d, .makeMap t none, rt, pos, af, gd⟩ e w Q K := by
  refine e_of_run rfl hlt (w' := w.alloc (.map #[] 0)) (v := .map (some w.heap.size)) (fun a F => ?_) (kk _ _ rfl ⟨heap_alloc_new w _, Born.nil⟩ (Ch.alloc w _) (by simp))
  simp [execOp, Instr.makeMap, newObj, Sem.run]
/-- Block r goes through the map m: the entries that were met. -/
def IT (w : World) (r m : Nat) (seen : List KE) (clock : Nat) : Prop := w.heap[r]? = some (.mapIter (some m) clock (seen.map (·.2.2)).toArray clock)
theorem IT.lt {w : World} {r m clock : Nat} {seen : List KE} (h : IT w r m seen clock) : r < w.heap.size := by
  rcases Nat.lt_or_ge r w.heap.size with hlt | hge
  · exact hlt
  · unfold IT at h; rw [Array.getElem?_eq_none hge] at h; cases h
theorem IT.ch {w w' : World} {T : Nat → Prop} {r m clock : Nat} {seen : List KE} (h : IT w r m seen clock) (c : Ch T w w') (hn : ¬ T r) : IT w' r m seen clock := (c.block r h.lt hn).trans h
theorem IT.ne {w : World} {r m clock b : Nat} {seen : List KE} {t : TypeId} {cs : Array Value} (h : IT w r m seen clock) (hb : Blk w b t cs) : r ≠ b := fun e => by
  subst e; unfold IT at h; unfold Blk at hb; rw [h] at hb; cases hb
theorem IT.neM {w : World} {r m clock b c : Nat} {seen l : List KE} (h : IT w r m seen clock) (hb : KV w b l c) : r ≠ b := fun e => by
  subst e; unfold IT at h; have hb := hb.1; rw [h] at hb; cases hb
/-- A way through a map begins. -/
theorem e_range {t kt et : TypeId} {x : Operand} {g clock : Nat} {l : List KE} (hlt : Nat.blt d n = true) (ht : P.underlying t = some (.map kt et)) (hx : ev e x = some (.map (some g))) (hm : KV w g l clock)
    (kk : ∀ w' r, r = w.heap.size → IT w' r g [] clock → Ch No w w' → w'.heap.size = r + 1 → K ((d, ptr r) :: e) w') : OpE P n ⟨some d, .range t x, rt, pos, af, gd⟩ e w Q K := by
  refine e_of_run rfl hlt (w' := w.alloc (.mapIter (some g) clock #[] clock)) (v := ptr w.heap.size) (fun a F => ?_) (kk _ _ rfl (heap_alloc_new w _) (Ch.alloc w _) (by simp))
  have hg := hm.1
  simp [execOp, F.ev hx, Instr.range, Sem.run_bind, run_underlying ht, MapKept.run_getObj_map hg, newObj, Sem.run, Result.andThen]
/-- The next entry: nothing is left, or one that was not met. -/
theorem e_nextM {x : Operand} {r g clock : Nat} {l seen : List KE} (hlt : Nat.blt d n = true) (hx : ev e x = some (ptr r)) (hm : KV w g l clock) (hi : IT w r g seen clock) (hs : ∀ e ∈ seen, e ∈ l)
    (k0 : (∀ e ∈ l, e ∈ seen) → K ((d, .tuple #[.bool false]) :: e) w)
    (k1 : ∀ y w', y ∈ l → y ∉ seen → IT w' r g (seen ++ [y]) clock → Ch (fun k => k = r) w w' → w'.heap.size = w.heap.size → K ((d, .tuple #[.bool true, i64 (y.1 : Int), ptr y.2.1]) :: e) w') : OpE P n ⟨some d, .next x false, rt, pos, af, gd⟩ e w Q K := by
  have hin : ∀ y ∈ l, (y.2.2 ∈ seen.map (·.2.2)) → y ∈ seen := fun y hy hb => by
    obtain ⟨z, hz, he⟩ := List.mem_map.1 hb
    have := inj_of_nodup_map hm.2.1 (hs z hz) hy he
    exact this ▸ hz
  rcases run_next_at (P := P) w rt r g clock clock (seen.map (fun z : KE => z.2.2)).toArray (l.map entV).toArray clock hi hm.1 (fun x hx => by
    obtain ⟨y, hy, rfl⟩ := List.mem_map.1 (show x ∈ l.map entV from hx)
    exact hm.2.2 y hy) (Nat.le_refl _) with ⟨h0, hrun⟩ | ⟨z, hz, w1, hw1, hrun⟩
  · refine e_of_run rfl hlt (fun a F => ?_) (k0 fun y hy => hin y hy ?_)
    · simp [execOp, F.ev hx, hrun]
    · have h0' := Array.eq_empty_of_size_eq_zero h0
      unfold leftOf at h0'
      rw [Array.filter_eq_empty_iff] at h0'
      have := h0' (entV y) (List.mem_toArray.2 (List.mem_map.2 ⟨y, hy, rfl⟩))
      simpa [entV] using this
  · unfold leftOf at hz
    simp only [Array.toList_filter, List.mem_filter] at hz
    obtain ⟨hz1, hz2⟩ := hz
    obtain ⟨y, hy, rfl⟩ := List.mem_map.1 (show z ∈ l.map entV from hz1)
    have hns : y ∉ seen := fun hh => by
      have : y.2.2 ∈ seen.map (·.2.2) := List.mem_map.2 ⟨y, hh, rfl⟩
      simp [entV] at hz2
      exact hz2 _ _ (by simpa using hh)
    refine e_of_run rfl hlt (w' := ChangeMaps.setBlock w1 r (.mapIter (some g) clock ((seen.map (fun z : KE => z.2.2)).toArray.push y.2.2) clock)) (fun a F => ?_) (k1 y _ hy hns ?_ ?_ ?_)
    · have h' : (Instr.next (ptr r) false rt).run P w = .ok (.tuple #[.bool true, i64 (y.1 : Int), ptr y.2.1]) (ChangeMaps.setBlock w1 r (.mapIter (some g) clock ((seen.map (fun z : KE => z.2.2)).toArray.push y.2.2) clock)) := hrun
      simp [execOp, F.ev hx, h']
    · have := hi.lt
      have hl1 : w1.heap = w.heap := by rcases hw1 with rfl | rfl <;> rfl
      unfold IT ChangeMaps.setBlock
      simp [hl1, this]
    · have hl1 : w1.heap = w.heap := by rcases hw1 with rfl | rfl <;> rfl
      have e1 : w1.os = w.os ∧ w1.tape = w.tape ∧ w1.output = w.output := by rcases hw1 with rfl | rfl <;> exact ⟨rfl, rfl, rfl⟩
      exact ⟨e1.1, e1.2.1, e1.2.2, by simp [ChangeMaps.setBlock, hl1], fun k _ hn => by simp [ChangeMaps.setBlock, hl1, Array.getElem?_setIfInBounds_ne (Ne.symm hn)]⟩
    · have hl1 : w1.heap = w.heap := by rcases hw1 with rfl | rfl <;> rfl
      simp [ChangeMaps.setBlock, hl1]
/-- The entry that was met last. -/
theorem p_entryM {x : Operand} {r g clock : Nat} {l seen : List KE} {y : KE} (hx : ev e x = some (ptr r)) (hy : y ∈ l) (hr : ∀ w, S w → KV w g l clock ∧ IT w r g (seen ++ [y]) clock) : Pu P S n ⟨dst, .entry x, rt, pos, af, gd⟩ e (.tuple #[i64 (y.1 : Int), ptr y.2.1]) := fun a F w hw => by
  obtain ⟨hm, hi⟩ := hr w hw
  have h := run_entry_at (P := P) w r g clock (seen.map (fun z : KE => z.2.2)).toArray (l.map entV).toArray clock (entV y) (by unfold IT at hi; rw [hi]; simp [entV]) hm.1 (show entV y ∈ l.map entV from List.mem_map.2 ⟨y, hy, rfl⟩) (by
    have : (l.map entV).toArray.toList.map (·.born) = l.map (·.2.2) := by simp [entV, Function.comp_def]
    rw [this]; exact hm.2.1)
  have h' : (Instr.entry (ptr r)).run P w = .ok (.tuple #[i64 (y.1 : Int), ptr y.2.1]) w := h
  simp [execOp, F.ev hx, h']
end
end Go.Gx
