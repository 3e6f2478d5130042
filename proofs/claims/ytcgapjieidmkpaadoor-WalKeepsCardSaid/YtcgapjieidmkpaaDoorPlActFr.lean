/-
  Own text: what came in, read as records of what is done to a disk. Over any program.
-/
import Derived.Test.YtcgapjieidmkpaaDoorGxFrame
import Derived.Test.YtcgapjieidmkpaaDoorPlActs
set_option linter.unusedVariables false
namespace Go.Gx
open Go.RowKit Go.ChangeShapes Go.WideShapes Go.ChangeAt Go.Plain
section
variable {H : Type} {enc : TypeId × Value → H} {P : Program} {w : World} {held : Bool} {fuel : Nat} {t : TypeId} {cs : List Value} {d : DataW H} {p : List MemPlace}
theorem Light.fields {fs : Array Field} {ps : List (DataW H)} (hu : P.underlying t = some (.struct fs)) (h : Light P t (.agg ps)) {i : Nat} {f : Field} {x : DataW H} (hf : fs[i]? = some f) (hx : ps[i]? = some x) : Light P f.type x := fun n hn => h n (by
  simp only [DataW.weights, hu]
  exact DataW.weights_mem_each (j := i) (by rw [List.getElem?_map, Array.getElem?_toList, hf]; rfl) hx n hn)
theorem tr_ints {e : TypeId} (hu : P.underlying t = some (.slice e)) (he : P.underlying e = some (.int .i64)) (hc : P.cellsOf e = 1) (hb : P.bytesOf e = 8) (h : DataW.trod enc P w 0 (fun _ => true) held fuel t cs = some (d, p)) (hz : Light P t d) :
    ∃ A l c xs, cs = [.slice A l c] ∧ Sl w (fun _ => True) i64 A l c xs ∧ c ≤ 17592186044416 := by
  rcases open_ints hu he hc h with ⟨rfl, _⟩ | ⟨a, l, c, zs, rfl, _, hl, _, hlen, hx, hcell, hwf⟩
  · exact ⟨none, 0, 0, [], rfl, .nil, by omega⟩
  · injection hx with hd _
    subst hd
    have hsz := (hz.elems hu).1
    simp only [if_true] at hlen
    rw [hb] at hsz
    have hsz2 : c ≤ 17592186044416 := by
      have e1 : (lits .i64 (zs.take l) : List (DataW H)).length = l := by simp [lits, hlen]; omega
      have e2 : (lits .i64 (zs.drop l) : List (DataW H)).length = c - l := by simp [lits, hlen]
      rw [e1, e2] at hsz
      have : reachBytes = 140737488351232 := rfl
      omega
    refine ⟨some a, l, c, zs.take l, rfl, ⟨rd_of fun i x hi => ?_, by simp; omega, hl⟩, hsz2⟩
    have hzi : zs[i]? = some x := by
      rw [List.getElem?_take] at hi
      split at hi
      · exact hi
      · cases hi
    have hi2 : i < zs.length := (List.getElem?_eq_some_iff.1 hzi).1
    rw [hcell i hi2, show zs.getD i 0 = x by simp [List.getD, hzi]]
theorem take1 {cs : List Value} {i : Nat} (h : i < cs.length) : (cs.drop i).take 1 = [cs[i]] := by
  rw [List.drop_eq_getElem_cons h, List.take_succ_cons, List.take_zero]
theorem tr_act {f0 f1 f2 f3 f4 : Field} {eb ek : TypeId} (hu : P.underlying t = some (.struct #[f0, f1, f2, f3, f4])) (hn : P.cellsOf t = 5) (ho : (f0.offset, f1.offset, f2.offset, f3.offset, f4.offset) = (0, 1, 2, 3, 4)) (hc : (P.cellsOf f0.type, P.cellsOf f1.type, P.cellsOf f2.type, P.cellsOf f3.type, P.cellsOf f4.type) = (1, 1, 1, 1, 1))
    (u0 : P.underlying f0.type = some (.int .i64)) (u1 : P.underlying f1.type = some (.int .i64)) (u2 : P.underlying f2.type = some (.int .i64)) (u3 : P.underlying f3.type = some (.slice eb)) (ub : P.underlying eb = some (.int .u8)) (cb : P.cellsOf eb = 1) (bb : P.bytesOf eb = 1) (u4 : P.underlying f4.type = some (.slice ek)) (uk : P.underlying ek = some (.int .i64)) (ck : P.cellsOf ek = 1) (bk : P.bytesOf ek = 8)
    (h : DataW.trod enc P w 0 (fun _ => true) held fuel t cs = some (d, p)) (hz : Light P t d) : ∃ r a, cs = r.cells ∧ ActIs w (fun _ => True) r a := by
  obtain ⟨xs, n, _, hx, hl, hxl, hf⟩ := DataW.trod_struct hu h
  injection hx with hd _
  subst hd
  simp only [Prod.mk.injEq] at ho hc
  obtain ⟨o0, o1, o2, o3, o4⟩ := ho
  obtain ⟨c0, c1, c2, c3, c4⟩ := hc
  rw [hn] at hl
  simp at hxl
  obtain ⟨v0, v1, v2, v3, v4, rfl⟩ : ∃ a b c d e, cs = [a, b, c, d, e] := by
    match cs, hl with
    | [a, b, c, d, e], _ => exact ⟨_, _, _, _, _, rfl⟩
  have one : ∀ (i : Nat) (f : Field) (v : Value), #[f0, f1, f2, f3, f4][i]? = some f → f.offset = i → P.cellsOf f.type = 1 → [v0, v1, v2, v3, v4][i]? = some v → ∃ y : DataW H × List MemPlace, DataW.trod enc P w 0 (fun _ => true) held n f.type [v] = some (y.1, y.2) ∧ Light P f.type y.1 := fun i f v hfi hoi hci hv => by
    have h1 := hf i f hfi
    have hi := (List.getElem?_eq_some_iff.1 hv).1
    have hv2 := (List.getElem?_eq_some_iff.1 hv).2
    have hi5 : i < 5 := by simpa using hi
    rw [hoi, hci, take1 hi, hv2, List.getElem?_eq_getElem (show i < xs.length by omega)] at h1
    exact ⟨xs[i]'(by omega), h1, Light.fields hu hz hfi (by rw [List.getElem?_map, List.getElem?_eq_getElem (show i < xs.length by omega)]; rfl)⟩
  obtain ⟨y0, t0, z0⟩ := one 0 f0 _ rfl o0 c0 rfl
  obtain ⟨y1, t1, z1⟩ := one 1 f1 _ rfl o1 c1 rfl
  obtain ⟨y2, t2, z2⟩ := one 2 f2 _ rfl o2 c2 rfl
  obtain ⟨y3, t3, z3⟩ := one 3 f3 _ rfl o3 c3 rfl
  obtain ⟨y4, t4, z4⟩ := one 4 f4 _ rfl o4 c4 rfl
  obtain ⟨n0, e0, w0⟩ := tr_int u0 t0
  obtain ⟨n1, e1, w1⟩ := tr_int u1 t1
  obtain ⟨n2, e2, w2⟩ := tr_int u2 t2
  obtain ⟨bA, bl, bc, b, e3, s3, Z3⟩ := tr_bytes u3 ub cb bb t3 z3
  obtain ⟨kA, kl, kc, k, e4, s4, Z4⟩ := tr_ints u4 uk ck bk t4 z4
  have b1 := bounds_i64 w1
  have b2 := bounds_i64 w2
  refine ⟨⟨n0, n1, n2, bA, bl, bc, kA, kl, kc⟩, ⟨n0, n1, n2, b, k⟩, ?_, ⟨rfl, rfl, rfl, s3, s4, Z3, Z4, b1.1, by first | exact b1.2 | (have := b1.2; omega), b2.1, by first | exact b2.2 | (have := b2.2; omega)⟩⟩
  simp only [List.cons.injEq, and_true] at e0 e1 e2 e3 e4
  have E0 : v0 = _ := e0
  have E1 : v1 = _ := e1
  have E2 : v2 = _ := e2
  have E3 : v3 = _ := e3
  have E4 : v4 = _ := e4
  rw [E0, E1, E2, E3, E4]; rfl
theorem act_cells {F : Nat → Prop} {r : RawAct} {a : ActD} (h : ActIs w F r a) : r.cells = [i64 a.kind, i64 a.a, i64 a.n, .slice r.bA r.bl r.bc, .slice r.kA r.kl r.kc] := by rw [← h.e1, ← h.e2, ← h.e3]; rfl
/-- A slice of such records. -/
theorem tr_acts {e : TypeId} (hu : P.underlying t = some (.slice e)) (hn : P.cellsOf e = 5) (hbe : P.bytesOf e = 72) (hact : ∀ (m : Nat) (el : List Value) (d' : DataW H) (p' : List MemPlace), DataW.trod enc P w 0 (fun _ => true) held m e el = some (d', p') → Light P e d' → ∃ r a, el = r.cells ∧ ActIs w (fun _ => True) r a)
    (h : DataW.trod enc P w 0 (fun _ => true) held fuel t cs = some (d, p)) (hz : Light P t d) : ∃ A l k q, cs = [.slice A l k] ∧ SA w (fun _ => True) A l k q ∧ k ≤ 1954687338211 := by
  obtain ⟨A, l, k, els, rfl, hl, hlen, hk, hel, htr⟩ := tr_slice hu hn h hz
  rw [hbe] at hk
  have each : ∀ el ∈ els, ∃ (r : RawAct) (a : ActD), el = r.cells ∧ ActIs w (fun _ => True) r a := fun el hm => by
    obtain ⟨m, d', p', h1, h2⟩ := htr el hm
    exact hact m el d' p' h1 h2
  classical
  let fr : List Value → RawAct := fun el => if h : ∃ (r : RawAct) (a : ActD), el = r.cells ∧ ActIs w (fun _ => True) r a then Classical.choose h else default
  let fa : List Value → ActD := fun el => if h : ∃ (r : RawAct) (a : ActD), el = r.cells ∧ ActIs w (fun _ => True) r a then Classical.choose (Classical.choose_spec h) else default
  have hf : ∀ el ∈ els, el = (fr el).cells ∧ ActIs w (fun _ => True) (fr el) (fa el) := fun el hm => by
    have h := each el hm
    simp only [fr, fa, dif_pos h]
    exact Classical.choose_spec (Classical.choose_spec h)
  refine ⟨A, l, k, els.map fa, rfl, ⟨⟨els.map fr, ?_, by rw [List.length_map, hlen], fun i hi => ?_⟩, by rw [List.length_map, hlen], hl⟩, by omega⟩
  · rcases els with _ | ⟨x, rest⟩
    · exact .inl rfl
    · obtain ⟨a, rfl, _⟩ := hel 0 x rfl
      have hc' : ∀ i v, (((x :: rest).map fr).flatMap RawAct.cells)[i]? = some v → w.cell? (a.add i) = some v := fun i v hv => by
        have hlt := (List.getElem?_eq_some_iff.1 hv).1
        rw [flat5, List.length_map] at hlt
        have hi5 : i / 5 < (x :: rest).length := by omega
        have e1 : ((x :: rest).map fr).getD (i / 5) default = fr (x :: rest)[i / 5] := by simp only [List.getD, List.getElem?_map, List.getElem?_eq_getElem hi5, Option.map_some, Option.getD_some]
        have hm5 : i % 5 < (fr (x :: rest)[i / 5]).cells.length := by simp only [RawAct.cells, List.length_cons, List.length_nil]; omega
        have h5 := cells5 ((x :: rest).map fr) (i / 5) (by rw [List.length_map]; exact hi5) (i % 5) ((fr (x :: rest)[i / 5]).cells[i % 5]) (by rw [e1]; exact List.getElem?_eq_getElem hm5)
        rw [show i / 5 * 5 + i % 5 = i by omega, hv] at h5
        injection h5 with h5
        obtain ⟨a', ha, _, hcell⟩ := hel (i / 5) _ (List.getElem?_eq_getElem hi5)
        cases ha
        have hx := (hf _ (List.getElem_mem hi5)).1
        have h2 := hcell (i % 5) v (by rw [hx, h5]; exact List.getElem?_eq_getElem hm5)
        rwa [Addr.add_add, show i / 5 * 5 + i % 5 = i by omega] at h2
      have := rd_of (f := fun v : Value => v) (a := a) (l := ((x :: rest).map fr).flatMap RawAct.cells) hc'
      rwa [List.map_id'] at this
  · have hi2 : i < els.length := by omega
    have e1 : (els.map fr).getD i default = fr els[i] := by simp only [List.getD, List.getElem?_map, List.getElem?_eq_getElem hi2, Option.map_some, Option.getD_some]
    have e2 : (els.map fa).getD i default = fa els[i] := by simp only [List.getD, List.getElem?_map, List.getElem?_eq_getElem hi2, Option.map_some, Option.getD_some]
    rw [e1, e2]
    exact (hf _ (List.getElem_mem hi2)).2
theorem okWide_struct {fs : Array Field} {r : Reach} {b : Nat} {v : Value} (ht : P.underlying t = some (.struct fs)) (h : Value.okWide P w r b t v) : ∃ cs, v = .agg cs := by
  simp only [Value.okWide, ht] at h
  obtain ⟨cs, h1, h2, _⟩ := h
  exact ⟨cs, h1⟩
end
end Go.Gx
