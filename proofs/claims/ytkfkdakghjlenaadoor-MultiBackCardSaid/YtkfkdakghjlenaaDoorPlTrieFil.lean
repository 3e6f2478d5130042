/-
  Own text: trees in memory as hashes are reckoned: what is no node stays, every tree stays.
-/
import Derived.Test.YtkfkdakghjlenaaDoorPlTrieSt
import Derived.Test.YtkfkdakghjlenaaDoorGxRec
set_option linter.unusedSimpArgs false
set_option linter.unusedVariables false
namespace Go.Gx
open Go.RowKit Go.Plain
section
variable {N : TypeId} {w w' w2 : World} {T U : Nat → Prop}
theorem LAt.mem_blk : ∀ {t : LT}, LAt N w t → ∀ a, a ∈ t.ads → ∃ cs, Blk w a N cs
  | .leaf g k v, ⟨_, _, _, _, _, h⟩, a, ha => by simp [LT.ads] at ha; subst ha; exact ⟨_, h⟩
  | .fork g b x y, ⟨⟨_, _, _, _, _, _, h⟩, h2, h3⟩, a, ha => by
    simp only [LT.ads, List.mem_cons, List.mem_append] at ha
    rcases ha with rfl | ha | ha
    · exact ⟨_, h⟩
    · exact h2.mem_blk a ha
    · exact h3.mem_blk a ha
theorem LAt.subW : ∀ {t : LT}, LAt N w t → ∀ a ∈ t.ads, ∃ s, LAt N w s ∧ s.adr = a ∧ (∀ w', LAt N w' t → LAt N w' s) ∧ ∀ b ∈ s.ads, b ∈ t.ads
  | .leaf g k v, h, a, ha => ⟨.leaf g k v, h, by simp [LT.ads] at ha; exact ha.symm, fun _ h => h, fun _ h => h⟩
  | .fork g b x y, h, a, ha => by
    simp only [LT.ads, List.mem_cons, List.mem_append] at ha
    rcases ha with rfl | ha | ha
    · exact ⟨.fork a b x y, h, rfl, fun _ h => h, fun _ h => h⟩
    · obtain ⟨s, h1, h2, h3, h4⟩ := LAt.subW h.2.1 a ha
      exact ⟨s, h1, h2, fun w' hw => h3 w' hw.2.1, fun c hc => by simp [LT.ads, h4 c hc]⟩
    · obtain ⟨s, h1, h2, h3, h4⟩ := LAt.subW h.2.2 a ha
      exact ⟨s, h1, h2, fun w' hw => h3 w' hw.2.2, fun c hc => by simp [LT.ads, h4 c hc]⟩
/-- Where one tree's places alone have changed, and it stands, every tree stands. -/
theorem Fil.of {t : LT} (h : LAt N w t) (c : Ch (fun k => k ∈ t.ads) w w') (h' : LAt N w' t) : Fil N w w' := by
  have nd : ∀ s : LT, LAt N w s → NdAt N w' s := fun s hs => by
    by_cases hm : s.adr ∈ t.ads
    · obtain ⟨s', h1, h2, h3, _⟩ := h.subW _ hm
      have e := LAt.uniq h1 hs h2
      subst e
      exact (h3 w' h').nd
    · exact NdAt.ch c hs.nd hm
  intro s
  induction s with
  | leaf g k v => exact fun hs => nd _ hs
  | fork g b x y ihx ihy => exact fun hs => ⟨nd _ hs, ihx hs.2.1, ihy hs.2.2⟩
theorem Blk.not_nd {g : Nat} {t : TypeId} {cs : Array Value} (h : Blk w g t cs) (hm : ∀ k, T k → ∃ cs, Blk w k N cs) (hN : t ≠ N := by decide) : ¬ T g := fun ht => by
  obtain ⟨cs', h'⟩ := hm g ht
  have e := h.symm.trans h'
  injection e with e
  injection e with _ e
  exact hN e
theorem Blk.ne {g g' : Nat} {t t' : TypeId} {cs cs' : Array Value} (h : Blk w g t cs) (h' : Blk w g' t' cs') (hN : t ≠ t' := by decide) : g ≠ g' := fun e => by
  subst e
  have e := h.symm.trans h'
  injection e with e
  injection e with _ e
  exact hN e
theorem Row.ty {F : Nat → Prop} {t : TypeId} {sz n : Nat} {v : Value} {xs : List Value} (h : Row w F t sz v n xs) (k : Ch T w w') (hT : ∀ i, T i → ∃ cs, Blk w i N cs) (hN : t ≠ N := by decide) : Row w' F t sz v n xs := by
  obtain ⟨⟨h1, h2⟩, h3⟩ := h
  refine ⟨⟨h1, ?_⟩, h3⟩
  rcases h2 with h2 | ⟨g, cap, cur, e, hb, hg, r⟩
  · exact .inl h2
  · have hlt : g < w.heap.size := Blk.lt (t := t) hg
    exact .inr ⟨g, cap, cur, e, hb, (k.block g hlt (Blk.not_nd (t := t) hg hT hN)).trans hg, r⟩
theorem cell_out {t : LT} {g : Nat} {v : Value} (hr : w.cell? ⟨g, 0, none⟩ = some v) (hv : ∀ z, v ≠ i64 z) (h : LAt N w t) : g ∉ t.ads := fun hm => by
  obtain ⟨s, h1, h2, _, _⟩ := h.subW _ hm
  subst h2
  obtain ⟨g', p, q, u, d, hh, e, _, _, _, _, _, hb⟩ := h1.top
  subst e
  have := hb.cell (i := 0) (v := i64 (s.er.bit : Int)) (by simp [nodeC])
  rw [hr] at this
  injection this with this
  exact hv _ this
theorem sl_out {t : LT} {A : Nat} {l c : Nat} {xs : List (BitVec 32)} {F : Nat → Prop} (hs : Sl w F u32v (some ⟨A, 0, none⟩) l c xs) (h0 : 0 < l) (h : LAt N w t) : A ∉ t.ads := by
  obtain ⟨b, o, hA, _, hc⟩ := hs.opn (d := 0#32) h0
  cases hA
  exact cell_out (hc 0 h0) (fun z e => by unfold u32v at e; injection e with e; cases e) h
theorem LAt.fil {t : LT} (h : LAt N w t) (f : Fil N w w') : LAt N w' t := f t h
/-- A node's record behind the reckoning. -/
theorem once_done {g : Nat} {b : Nat} {p q : Value} {k v : H8} {c : Nat} {h : H8} (hk : k.length = 32) (hv : v.length = 32) (hb : Blk w g N (nodeC b p q k v c 0 1 h).toArray) :
    Blk ((w.drew.setCell ⟨g, 68, none⟩ (.int .u32 1)).setCell ⟨g, 69, none⟩ (.int .i32 0)) g N (nodeC b p q k v c 1 0 h).toArray := by
  have hb' : Blk w.drew g N (nodeC b p q k v c 0 1 h).toArray := hb.ch (Ch.drew w) (fun h => h)
  have h1 := (hb'.set 68 (.int .u32 1)).set 69 (.int .i32 0)
  have e : ((nodeC b p q k v c 0 1 h).toArray.setIfInBounds 68 (.int .u32 1)).setIfInBounds 69 (.int .i32 0) = (nodeC b p q k v c 1 0 h).toArray := by
    apply Array.toList_inj.1
    simp only [Array.toList_setIfInBounds, List.toList_toArray]
    unfold nodeC
    rw [← List.append_assoc, ← List.append_assoc]
    have hl : ([i64 (b : Int), p, q] ++ List.map u8v k ++ List.map u8v v).length = 67 := by simp [hk, hv]
    rw [List.set_append_right _ _ (by omega), List.set_append_right _ _ (by omega), hl, List.append_assoc, List.append_assoc]
    rfl
  rw [e] at h1
  exact h1
theorem once_lock {g : Nat} {b : Nat} {p q : Value} {k v : H8} {c d : Nat} {h : H8} (hk : k.length = 32) (hv : v.length = 32) (hb : Blk w g N (nodeC b p q k v c d 0 h).toArray) :
    Blk (w.setCell ⟨g, 69, none⟩ (.int .i32 1)) g N (nodeC b p q k v c d 1 h).toArray := by
  have h1 := hb.set 69 (.int .i32 1)
  have e : (nodeC b p q k v c d 0 h).toArray.setIfInBounds 69 (.int .i32 1) = (nodeC b p q k v c d 1 h).toArray := by
    apply Array.toList_inj.1
    simp only [Array.toList_setIfInBounds, List.toList_toArray]
    unfold nodeC
    rw [← List.append_assoc, ← List.append_assoc]
    have hl : ([i64 (b : Int), p, q] ++ List.map u8v k ++ List.map u8v v).length = 67 := by simp [hk, hv]
    rw [List.set_append_right _ _ (by omega), hl, List.append_assoc, List.append_assoc]
    rfl
  rw [e] at h1
  exact h1
theorem node_cells {g : Nat} {b : Nat} {p q : Value} {k v : H8} {c d m : Nat} {h : H8} (hk : k.length = 32) (hv : v.length = 32) (hb : Blk w g N (nodeC b p q k v c d m h).toArray) :
    w.cell? ⟨g, 68, none⟩ = some (.int .u32 (d : Int)) ∧ w.cell? ⟨g, 69, none⟩ = some (.int .i32 (m : Int)) := by
  have hl : ([i64 (b : Int), p, q] ++ List.map u8v k ++ List.map u8v v).length = 67 := by simp [hk, hv]
  have e : (nodeC b p q k v c d m h) = ([i64 (b : Int), p, q] ++ List.map u8v k ++ List.map u8v v) ++ ([i64 (c : Int), Value.int .u32 (d : Int), Value.int .i32 (m : Int), Value.int .u32 0] ++ List.map u8v h) := by
    unfold nodeC; rw [List.append_assoc, List.append_assoc]
  constructor
  · refine hb.cell ?_
    rw [e, List.getElem?_toArray, List.getElem?_append_right (by omega), hl]; rfl
  · refine hb.cell ?_
    rw [e, List.getElem?_toArray, List.getElem?_append_right (by omega), hl]; rfl
end
end Go.Gx
