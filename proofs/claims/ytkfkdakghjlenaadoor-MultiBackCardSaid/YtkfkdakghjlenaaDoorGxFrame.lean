/-
  Own text: what came in, read as the walks want it: bytes, texts, numbers, arrays of them; with the reach of the form.
-/
import Derived.Test.YtkfkdakghjlenaaDoorGxAgg
import Derived.ProofKit
import Derived.OpenShut
import Derived.ShutString
import Derived.ChangeOld
import Derived.Below
import Derived.SizedLaws
import Derived.SliceStrings
import Derived.Lib.LaidTab
import Derived.Deep.DeepHandedRow
set_option linter.unusedSimpArgs false
set_option linter.unusedVariables false
namespace Go.Gx
open Go.RowKit Go.ChangeShapes Go.WideShapes Go.ChangeAt

section
variable {H : Type} {enc : TypeId × Value → H} {P : Program} {w : World} {held : Bool} {fuel : Nat} {t : TypeId} {cs : List Value} {d : DataW H} {p : List MemPlace}

/-- What all weights of a reading are bound by. -/
def Light (P : Program) (t : TypeId) (d : DataW H) : Prop := ∀ n ∈ d.weights P t, n ≤ reachBytes
theorem light_each {ts : List TypeId} {ds : List (DataW H)} (h : (DataW.weightsEach P ts ds).all (· ≤ reachBytes) = true) {j : Nat} {t : TypeId} {d : DataW H} (ht : ts[j]? = some t) (hd : ds[j]? = some d) : Light P t d := fun n hn => by
  have := List.all_eq_true.1 h n (DataW.weights_mem_each ht hd n hn)
  simpa using this
theorem mem_weightsAll {e : TypeId} {ds : List (DataW H)} {d : DataW H} (hd : d ∈ ds) {n : Nat} (hn : n ∈ d.weights P e) : n ∈ DataW.weightsAll P e ds := by
  induction ds with
  | nil => cases hd
  | cons x r ih =>
    simp only [DataW.weightsAll, List.mem_append]
    rcases List.mem_cons.1 hd with rfl | h
    · exact .inl hn
    · exact .inr (ih h)
theorem Light.elems {e : TypeId} {elems spare : List (DataW H)} (hu : P.underlying t = some (.slice e)) (h : Light P t (.slice elems spare)) : (elems.length + spare.length) * P.bytesOf e ≤ reachBytes ∧ ∀ x, x ∈ elems ∨ x ∈ spare → Light P e x := by
  refine ⟨h _ (by simp [DataW.weights, hu]), fun x hx n hn => h n ?_⟩
  simp only [DataW.weights, hu, List.mem_cons, List.mem_append]
  rcases hx with hx | hx
  · exact .inr (.inl (mem_weightsAll hx hn))
  · exact .inr (.inr (mem_weightsAll hx hn))
theorem Light.parts {n : Nat} {e : TypeId} {ps : List (DataW H)} (hu : P.underlying t = some (.array n e)) (h : Light P t (.agg ps)) : ∀ x ∈ ps, Light P e x := fun x hx n hn => h n (by
  simp only [DataW.weights, hu]; exact mem_weightsAll hx hn)

theorem tr_int {k : IntKind} (hu : P.underlying t = some (.int k)) (h : DataW.trod enc P w 0 (fun _ => true) held fuel t cs = some (d, p)) : ∃ n, cs = [.int k n] ∧ (Lit.int k n).wf = true := by
  cases fuel with
  | zero => simp [DataW.trod] at h
  | succ m =>
    unfold DataW.trod at h
    rw [hu] at h
    split at h <;> simp_all
theorem u8v_of {n : Int} (h : (Lit.int .u8 n).wf = true) : Value.int .u8 n = u8v (UInt8.ofNat n.toNat) := by
  have := bounds_u8 h
  simp only [u8v]
  congr 1
  simp
  omega
theorem rd_of {α : Type} {f : α → Value} {a : Addr} {l : List α} (hc : ∀ i x, l[i]? = some x → w.cell? (a.add i) = some (f x)) : Rd w (fun _ => True) (some a) (l.map f) := by
  rcases l with _ | ⟨x, r⟩
  · exact .inl rfl
  · have h0 := hc 0 x rfl
    obtain ⟨b, o, spot⟩ := a
    have hs : spot = none := by simpa [Addr.add] using World.cell?_spot h0
    subst hs
    refine .inr ⟨b, o, rfl, trivial, fun j u hj => ?_⟩
    rw [List.getElem?_map] at hj
    obtain ⟨y, hy, rfl⟩ := Option.map_eq_some_iff.1 hj
    have := hc j y hy
    rwa [Addr.add_mid] at this
theorem tr_bytes {e : TypeId} (hu : P.underlying t = some (.slice e)) (he : P.underlying e = some (.int .u8)) (hc : P.cellsOf e = 1) (hb : P.bytesOf e = 1) (h : DataW.trod enc P w 0 (fun _ => true) held fuel t cs = some (d, p)) (hz : Light P t d) :
    ∃ A l c bs, cs = [.slice A l c] ∧ Sl w (fun _ => True) u8v A l c bs ∧ c ≤ 140737488351232 := by
  rcases open_ints hu he hc h with ⟨rfl, _⟩ | ⟨a, l, c, zs, rfl, _, hl, _, hlen, hx, hcell, hwf⟩
  · exact ⟨none, 0, 0, [], rfl, .nil, by omega⟩
  · injection hx with hd _
    subst hd
    have hsz := (hz.elems hu).1
    simp only [if_true] at hlen
    rw [hb, Nat.mul_one] at hsz
    have hsz2 : c ≤ 140737488351232 := by
      have e1 : (lits .u8 (zs.take l) : List (DataW H)).length = l := by simp [lits, hlen]; omega
      have e2 : (lits .u8 (zs.drop l) : List (DataW H)).length = c - l := by simp [lits, hlen]
      rw [e1, e2] at hsz
      have : reachBytes = 140737488351232 := rfl
      omega
    refine ⟨some a, l, c, (zs.take l).map fun n => UInt8.ofNat n.toNat, rfl, ⟨rd_of fun i x hi => ?_, by simp; omega, hl⟩, hsz2⟩
    rw [List.getElem?_map] at hi
    obtain ⟨z, hz', rfl⟩ := Option.map_eq_some_iff.1 hi
    have hzi : zs[i]? = some z := by
      rw [List.getElem?_take] at hz'
      split at hz'
      · exact hz'
      · cases hz'
    have hi2 : i < zs.length := (List.getElem?_eq_some_iff.1 hzi).1
    rw [hcell i hi2, show zs.getD i 0 = z by simp [List.getD, hzi], u8v_of (hwf z (List.mem_of_getElem? hzi))]
/-- An array of elements of one cell each, opened. -/
theorem tr_array {n : Nat} {e : TypeId} (hu : P.underlying t = some (.array n e)) (hc : P.cellsOf e = 1) (hn : P.cellsOf t = n) (h : DataW.trod enc P w 0 (fun _ => true) held fuel t cs = some (d, p)) (hz : Light P t d) :
    cs.length = n ∧ ∀ (i : Nat) (v : Value), cs[i]? = some v → ∃ m d' p', DataW.trod enc P w 0 (fun _ => true) held m e [v] = some (d', p') ∧ Light P e d' := by
  obtain ⟨xs, m, rfl, hx, hl, hxl, hel⟩ := DataW.trod_array hu h
  rw [hn] at hl
  refine ⟨hl, fun i v hv => ?_⟩
  have hi : i < cs.length := (List.getElem?_eq_some_iff.1 hv).1
  have h1 := hel i (by omega)
  rw [hc, Nat.mul_one] at h1
  have h2 : (cs.drop i).take 1 = [v] := by
    rw [List.drop_eq_getElem_cons hi]
    simp only [List.take_succ_cons, List.take_zero, List.cons.injEq, and_true]
    rw [List.getElem?_eq_getElem hi] at hv
    exact Option.some.inj hv
  rw [h2] at h1
  have hix : i < xs.length := by omega
  rw [List.getElem?_eq_getElem hix] at h1
  refine ⟨m, xs[i].1, xs[i].2, h1, ?_⟩
  injection hx with hd _
  subst hd
  exact hz.parts hu _ (List.mem_map.2 ⟨_, List.getElem_mem hix, rfl⟩)
/-- A slice, whatever its elements are. -/
theorem tr_slice {e : TypeId} {c : Nat} (hu : P.underlying t = some (.slice e)) (hc : P.cellsOf e = c) (h : DataW.trod enc P w 0 (fun _ => true) held fuel t cs = some (d, p)) (hz : Light P t d) :
    ∃ (A : Option Addr) (l k : Nat) (els : List (List Value)), cs = [.slice A l k] ∧ l ≤ k ∧ els.length = l ∧ k * P.bytesOf e ≤ 140737488351232 ∧ (∀ i el, els[i]? = some el → ∃ a, A = some a ∧ el.length = c ∧ ∀ j v, el[j]? = some v → w.cell? ((a.add (i * c)).add j) = some v) ∧
      ∀ el ∈ els, ∃ m d' p', DataW.trod enc P w 0 (fun _ => true) held m e el = some (d', p') ∧ Light P e d' := by
  rcases DataW.trod_slice hu h with ⟨rfl, hx⟩ | ⟨a, len, cap, elems, rest, n, _, rfl, hx, hb, hl, hm, hlen, hel, hsp, hns⟩
  · exact ⟨none, 0, 0, [], rfl, Nat.le_refl _, rfl, by omega, by simp, by simp⟩
  · injection hx with hd _
    subst hd
    obtain ⟨hsz, helem⟩ := hz.elems hu
    obtain ⟨hrl, hr⟩ := hsp rfl
    rw [hc] at hel
    have hk : cap * P.bytesOf e ≤ 140737488351232 := by
      rw [List.length_map, List.length_map, hlen, hrl, show len + (cap - len) = cap by omega] at hsz
      exact hsz
    have hget : ∀ i, i < len → ∃ el y, w.cells? 0 (a.add (i * c)) c = some el ∧ elems[i]? = some y ∧ DataW.trod enc P w 0 (fun _ => true) held n e el = some y := fun i hi => by
      have h1 := hel i hi
      rw [List.getElem?_eq_getElem (show i < elems.length by omega)] at h1
      obtain ⟨el, h2, h3⟩ := Option.bind_eq_some_iff.1 h1
      exact ⟨el, _, h2, List.getElem?_eq_getElem (by omega), h3⟩
    let els := (List.range len).map fun i => (w.cells? 0 (a.add (i * c)) c).getD []
    have hels : ∀ i el, els[i]? = some el → w.cells? 0 (a.add (i * c)) c = some el ∧ i < len := fun i el he => by
      simp only [els, List.getElem?_map, Option.map_eq_some_iff] at he
      obtain ⟨j, hj, rfl⟩ := he
      have hil : i < len := by
        rcases Nat.lt_or_ge i len with h | h
        · exact h
        · simp [List.getElem?_eq_none (show (List.range len).length ≤ i by simpa using h)] at hj
      obtain ⟨el, y, h1, _⟩ := hget i hil
      have hji : j = i := by
        simp [List.getElem?_range hil] at hj; exact hj.symm
      subst hji
      rw [h1]; exact ⟨rfl, hil⟩
    refine ⟨some a, len, cap, els, rfl, hl, by simp [els], hk, fun i el he => ⟨a, rfl, ?_⟩, fun el he => ?_⟩
    · have h1 := World.cells?_some (hels i el he).1
      exact ⟨h1.2.1, fun j v hj => by rw [h1.2.2 j (by rw [← h1.2.1]; exact (List.getElem?_eq_some_iff.1 hj).1)]; exact hj⟩
    · obtain ⟨i, hi⟩ := List.getElem?_of_mem he
      obtain ⟨h1, h2⟩ := hels i el hi
      obtain ⟨el', y, h3, h4, h5⟩ := hget i h2
      rw [h1] at h3; injection h3 with h3; subst h3
      refine ⟨n, y.1, y.2, h5, helem _ (.inl (List.mem_map.2 ⟨y, List.mem_of_getElem? h4, rfl⟩))⟩
/-- An array of bytes. -/
theorem hash_of {n : Nat} {e : TypeId} {w : World} (hu : P.underlying e = some (.int .u8)) (hl : cs.length = n) (hel : ∀ (i : Nat) (v : Value), cs[i]? = some v → ∃ m d' p', DataW.trod enc P w 0 (fun _ => true) held m e [v] = some (d', p')) : ∃ h : List UInt8, cs = h.map u8v ∧ h.length = n := by
  refine ⟨cs.map fun v => match v with | .int _ z => UInt8.ofNat z.toNat | _ => 0, ?_, by rw [List.length_map, hl]⟩
  rw [List.map_map]
  apply List.ext_getElem?
  intro i
  rw [List.getElem?_map]
  cases h : cs[i]? with
  | none => rfl
  | some v =>
    obtain ⟨m, d', p', ht⟩ := hel i v h
    obtain ⟨z, e1, hw⟩ := tr_int hu ht
    simp only [List.cons.injEq, and_true] at e1
    subst e1
    simp only [Option.map_some, Function.comp_def]
    rw [u8v_of hw]
theorem tr_hash {n : Nat} {e : TypeId} (hu : P.underlying t = some (.array n e)) (he : P.underlying e = some (.int .u8)) (hc : P.cellsOf e = 1) (hn : P.cellsOf t = n) (h : DataW.trod enc P w 0 (fun _ => true) held fuel t cs = some (d, p)) (hz : Light P t d) :
    ∃ h : List UInt8, cs = h.map u8v ∧ h.length = n := by
  obtain ⟨hl, hel⟩ := tr_array hu hc hn h hz
  exact hash_of (enc := enc) (held := held) (w := w) he hl (fun i v hv => by obtain ⟨m, d', p', h1, _⟩ := hel i v hv; exact ⟨m, d', p', h1⟩)
end
/-- A listed table of numbers of 32 bits. -/
theorem sl_tab {P : Program} {W : World} {name : String} {zs : List Int} {g : Nat} {xs : List (BitVec 32)} {m : Nat} (h : Lib.TabIs P W name .u32 zs) (hg : P.globalNamed name = some g) (hx : xs.map (fun x => (x.toNat : Int)) = zs) (hm : xs.length = m) : Sl W (fun k => k = g) u32v (some ⟨g, 0, none⟩) m m xs := by
  subst hx
  refine ⟨.inr ⟨g, 0, rfl, rfl, fun j u hj => ?_⟩, hm, Nat.le_refl _⟩
  rw [List.getElem?_map] at hj
  obtain ⟨y, hy, rfl⟩ := Option.map_eq_some_iff.1 hj
  have hjl : j < xs.length := (List.getElem?_eq_some_iff.1 hy).1
  rw [Nat.zero_add, h.cell hg j (by rw [List.length_map]; exact hjl)]
  simp [List.getD, hy]
end Go.Gx
