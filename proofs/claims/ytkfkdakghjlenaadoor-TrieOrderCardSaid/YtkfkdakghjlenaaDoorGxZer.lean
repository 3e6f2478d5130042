/-
  Own text: noughts put behind a row of bytes; a slice's memory as an array.
-/
import Derived.Test.YtkfkdakghjlenaaDoorGxAny
import Derived.Lib.AppendZerosOnto
set_option linter.unusedSimpArgs false
set_option linter.unusedVariables false
namespace Go.Gx
open Go.RowKit
theorem zc_u8 (m : Nat) : Builtin.zeroCells (Value.int IntKind.u8 0).cells m = (List.replicate m (Value.int IntKind.u8 0)).toArray := by
  apply Array.toList_inj.1
  have e : (Value.int IntKind.u8 0).cells = #[Value.int IntKind.u8 0] := rfl
  have h1 : (#[Value.int IntKind.u8 0] : Array Value).size = 1 := rfl
  rw [e]
  unfold Builtin.zeroCells
  rw [h1, Nat.mul_one, Array.toList_map, Array.toList_range, List.toList_toArray]
  have h2 : (fun i => (#[Value.int IntKind.u8 0] : Array Value)[i % 1]!) = fun _ : Nat => Value.int IntKind.u8 0 := by
    funext i
    rw [Nat.mod_one]
    rfl
  rw [h2]
  induction m with
  | zero => rfl
  | succ m ih => rw [List.range_succ, List.map_append, ih, List.map_cons, List.map_nil, List.replicate_succ']
section
variable {P : Program} {Q : Exit → Act → World → Prop} {n : Nat} {e : Env} {w : World} {K : Env → World → Prop} {d : Nat} {rt : TypeId} {pos : String} {af : Array Edge} {gd : Option (Nat × Bool)}
/-- So many noughts behind a row of bytes that is there. -/
theorem e_appZ {t u E : TypeId} {kn kq : IntKind} {s x : Operand} {v : Value} {l m : Nat} {xs : List Value} {F : Nat → Prop} (hlt : Nat.blt d n = true) (ht : ElT P t E 1 1) (hz : (P.info? E).map (·.zero) = some (some (.int .u8 0))) (hu : P.underlying u = some (.int kn)) (hs : ev e s = some v) (hx : ev e x = some (.int kq (m : Int))) (R : Row w F E 1 v l xs) (h0 : 0 < l)
    (hb : l + m ≤ 140737488355328) (hF : ∀ k, w.heap.size ≤ k → F k)
    (k : ∀ w' v', Row w' F E 1 v' (l + m) (xs ++ List.replicate m (.int .u8 0)) → Ch F w w' → K ((d, v') :: e) w') : OpE P n ⟨some d, .call { callee := .builtin .append, args := #[s, x], argTypes := #[t, u] }, rt, pos, af, gd⟩ e w Q K := by
  obtain ⟨i, z, hi, hz', hsize, hby, hzs⟩ := ht.info
  have hz2 : i.zero = some (.int .u8 0) := by rw [hi] at hz; simpa using hz
  have hxl : xs.length = l := by simpa using R.own.1
  have hw : IntKind.i64.wrap (m : Int) = m := by rw [IntKind.wrap_i64]; omega
  have hrun : ∃ v' w', (Builtin.append_ #[t, u] rt #[v, .int kq (m : Int)]).run P w = .ok v' w' ∧ Row w' F E 1 v' (l + m) (xs ++ List.replicate m (.int .u8 0)) ∧ Ch F w w' := by
    rcases R.own.2 with ⟨rfl, rfl⟩ | ⟨g, cap, cur, rfl, _, hg, hnc, hcm, hcs, htake⟩
    · omega
    · have hcs' : cur.size = cap := by simpa using hcs
      have htk : cur.toList.take l = xs := by simpa using htake
      have hFg : F g := R.at_ g rfl
      by_cases hroom : l + m ≤ cap
      · have hst := run_storeCells_at P g l E (List.replicate m (Value.int IntKind.u8 0)) 0 cur w hg (by rw [List.length_replicate]; omega) (fun u hu => by rw [List.eq_of_mem_replicate hu]; rfl)
        simp only [Nat.add_zero, List.length_replicate] at hst
        have hneg : ¬ ((m : Int) < 0) := by omega
        have h48 : ¬ (281474976710656 < (m : Int)) := by omega
        refine ⟨.slice (some ⟨g, 0, none⟩) (l + m) cap, w.setRow g (cur.toList.take l ++ List.replicate m (Value.int .u8 0) ++ cur.toList.drop (l + m)).toArray, ?_, ?_, ?_⟩
        · by_cases hm : m = 0
          · subst hm
            simp at hst
            have hw0 : IntKind.i64.wrap 0 = 0 := by rw [IntKind.wrap_i64]; rfl
            have hn1 : ¬ ((281474976710656 : Int) < 0) := by omega
            simp [Builtin.append_, run_underlying ht.under, run_underlying hu, sizeOf, typeInfo, zeroValue, hi, hsize, hby, hz2, asInt, asIntOf, hw0, hn1, hnc, hst, Addr.add_lit]
          · simp [Builtin.append_, run_underlying ht.under, run_underlying hu, sizeOf, typeInfo, zeroValue, hi, hsize, hby, hz2, asInt, asIntOf, hw, hneg, h48, hm, hroom, zc_u8, hst, Addr.add_lit]
        · refine ⟨⟨by rw [List.length_append, List.length_replicate, hxl, Nat.mul_one], .inr ⟨g, cap, _, rfl, Nat.zero_le _, setRow_heap w g cur _ E _ hg, hroom, hcm, ?_, ?_⟩⟩, fun k hk => R.at_ k hk⟩
          · simp only [List.size_toArray, List.length_append, List.length_take, List.length_drop, Array.length_toList, List.length_replicate]
            omega
          · rw [htk, Nat.mul_one]
            exact List.take_left' (by rw [List.length_append, List.length_replicate, hxl])
        · exact Ch.of_grown (row := some g) ⟨rfl, rfl, rfl, by simp, fun k hk hne => setRow_other w g k _ (fun e => hne (by rw [e]))⟩ (fun k hk => by cases hk; exact hFg)
      · have holds : ∀ j u, xs[j]? = some u → w.drew.cell? ((⟨g, 0, none⟩ : Addr).add j) = some u := fun j u hj => by simpa using R.own.cells (g := g) rfl j u hj
        have hold := run_firstCells_some (P := P) w.drew i.size l ⟨g, 0, none⟩ l cap xs (by rw [hsize]; simpa using hxl) holds
        have hr := Lib.run_append_grow_zeros (P := P) w t u rt E i (.int .u8 0) kq kn ht.under hu hi hz2 (some ⟨g, 0, none⟩) l cap xs hold m (by omega) (by omega) (by omega) (by omega) (by rw [hby]; omega) (by rw [hby]; exact growslice_fits (by omega) (by omega))
        refine ⟨_, _, hr, ?_, ?_⟩
        · have hge := grownCap_ge w (l + m) cap E
          have hcm2 : grownCap w (l + m) cap E ≤ maxLen := grownCap_le_maxLen w (l + m) cap E (by unfold maxLen; omega)
          refine ⟨⟨by rw [List.length_append, List.length_replicate, hxl, Nat.mul_one], .inr ⟨w.heap.size, _, _, rfl, Nat.zero_le _, heap_alloc_new w.drew _, hge, hcm2, ?_, ?_⟩⟩, fun k hk => by cases hk; exact hF _ (Nat.le_refl _)⟩
          · have hz1 : (Value.int IntKind.u8 0).cells.size = 1 := rfl
            simp only [Array.size_append, List.size_toArray, size_zeroCells, hz1, hxl]
            omega
          · rw [zc_u8]
            simp only [Array.toList_append, Nat.mul_one]
            exact List.take_left' (by rw [List.length_append, List.length_replicate, hxl])
        · exact Ch.of_grown (row := some g) ⟨rfl, rfl, rfl, by simp, fun k hk _ => heap_alloc_old w.drew _ hk⟩ (fun k hk => by cases hk; exact hFg)
  obtain ⟨v', w', hr, h2, h3⟩ := hrun
  refine e_of_run rfl hlt (fun a Fr => ?_) (k w' v' h2 h3)
  simp [execOp, resolve, invoke, builtin, Fr.ev hs, Fr.ev hx, hr]
end
section
variable {P : Program} {S : World → Prop} {n : Nat} {e : Env} {dst : Option Tmp} {rt : TypeId} {pos : String} {af : Array Edge} {gd : Option (Nat × Bool)}
/-- A slice as a pointer to an array. -/
theorem p_s2a {t E : TypeId} {N l c : Nat} {A : Option Addr} {x : Operand} (ht : P.underlying t = some (.array N E)) (hx : ev e x = some (.slice A l c)) (hl : N ≤ l) : Pu P S n ⟨dst, .sliceToArrayPointer t x, rt, pos, af, gd⟩ e (.pointer A) := fun a F w _ => by
  have h : ¬ l < N := by omega
  simp [execOp, F.ev hx, Instr.arrayAt, run_underlying ht, h]
theorem Sl.range {w : World} {F : Nat → Prop} {b o l c : Nat} {xs : List UInt8} (h : Sl w F u8v (some ⟨b, o, none⟩) l c xs) : w.rangeAt b o (xs.map u8v) := fun j v hv => by
  rcases h.rd with h1 | ⟨b', o', h1, _, h2⟩
  · rw [h1] at hv; simp at hv
  · cases h1; exact h2 j v hv
end
section
variable {P : Program} {Q : Exit → Act → World → Prop} {n : Nat} {e : Env} {w : World} {K : Env → World → Prop} {rt : TypeId} {pos : String} {af : Array Edge} {gd : Option (Nat × Bool)}
/-- A field of a record is stored. -/
theorem e_stF {t : TypeId} {a b : Operand} {g j : Nat} {E : TypeId} {vs : List Value} {v : Value} (hi : (P.info? t).map (·.size) = some 1) (h1 : v.oneCell' = true) (hx : ev e a = some (.pointer (some ⟨g, j, none⟩))) (hy : ev e b = some v) (hb : Blk w g E vs.toArray) (hj : j < vs.length)
    (k : ∀ w', Blk w' g E (vs.set j v).toArray → Ch (fun k => k = g) w w' → w'.heap.size = w.heap.size → K e w') : OpE P n ⟨none, .store t a b, rt, pos, af, gd⟩ e w Q K :=
  e_st hi h1 hx hy hb (by simpa using hj) (fun w' h => k w' (by simpa using h))
end
end Go.Gx
