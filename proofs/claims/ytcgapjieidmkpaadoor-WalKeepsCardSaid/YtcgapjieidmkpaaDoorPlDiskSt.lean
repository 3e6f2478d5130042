/-
  Own text: a disk in memory: its record, its row of safe sectors, its map of dirty ones, its lists; what is read and stored there. Over any program.
-/
import Derived.Test.YtcgapjieidmkpaaDoorGxMaps
import Derived.Test.YtcgapjieidmkpaaDoorPlDisk
set_option linter.unusedVariables false
namespace Go.Gx
open Go.RowKit Go.Plain

/-- The numbers of the types of a disk, of a sector, of whole numbers. -/
structure DTy where
  D : TypeId
  S : TypeId
  I : TypeId
  ds : D ≠ S
  di : D ≠ I
  si : S ≠ I
abbrev dcell (gs n cs gm : Nat) (Ao : Option Addr) (lo co : Nat) (off : Bool) (armed : Nat) (Ak : Option Addr) (lk ck : Nat) (torn : Int) : Array Value :=
  #[.slice (some ⟨gs, 0, none⟩) n cs, .map (some gm), .slice Ao lo co, .bool off, i64 (armed : Int), .slice Ak lk ck, i64 torn]
abbrev nv (i : Nat) : Value := i64 (i : Int)
/-- What a disk's record leads to; ks are the sectors that are in its map. -/
structure DR (T : DTy) (w : World) (F : Nat → Prop) (g n gs gm : Nat) (Ao : Option Addr) (lo co : Nat) (Ak : Option Addr) (lk ck : Nat) (sf nw : List UInt8) (ord : List Nat) (keep : List Int) (ks : List Nat) : Prop where
  hZ : ∃ zz : List Value, Blk w gs T.S (sf.map u8v ++ zz).toArray
  ex : ∃ l clk, KV w gm l clk ∧ (l.map (·.1)).Nodup ∧ (∀ k, (∃ b c, (k, b, c) ∈ l) ↔ k ∈ ks) ∧ (∀ k b c, (k, b, c) ∈ l → Blk w b T.S ((sec nw k).map u8v).toArray ∧ b ≠ gs ∧ F b) ∧ ∀ k k' b c c', (k, b, c) ∈ l → (k', b, c') ∈ l → k = k'
  hO : Row w F T.I 1 (.slice Ao lo co) lo (ord.map nv)
  hK : Row w F T.I 1 (.slice Ak lk ck) lk (keep.map i64)
  dis : ∀ k, (Value.slice Ao lo co).ownBlock = some k → (Value.slice Ak lk ck).ownBlock ≠ some k
  fg : F g
  fs : F gs
  fm : F gm
section
variable {T : DTy} {w w' : World} {F G U : Nat → Prop} {g n gs gm : Nat} {Ao Ak : Option Addr} {lo co lk ck : Nat} {sf nw : List UInt8} {ord : List Nat} {keep : List Int} {ks : List Nat}
theorem DR.ch (h : DR T w F g n gs gm Ao lo co Ak lk ck sf nw ord keep ks) (c : Ch U w w') (hn : ∀ k, k < w.heap.size → F k → ¬ U k) : DR T w' F g n gs gm Ao lo co Ak lk ck sf nw ord keep ks := by
  obtain ⟨l, clk, h1, h2, h3, h4, h5⟩ := h.ex
  obtain ⟨zz, hS⟩ := h.hZ
  exact ⟨⟨zz, hS.ch c (hn _ hS.lt h.fs)⟩, ⟨l, clk, h1.ch c (hn _ h1.lt h.fm), h2, h3, fun k b c' hm => by
    obtain ⟨a1, a2, a3⟩ := h4 k b c' hm
    exact ⟨a1.ch c (hn _ a1.lt a3), a2, a3⟩, h5⟩, h.hO.ch c hn, h.hK.ch c hn, h.dis, h.fg, h.fs, h.fm⟩
theorem DR.no (h : DR T w F g n gs gm Ao lo co Ak lk ck sf nw ord keep ks) (c : Ch No w w') : DR T w' F g n gs gm Ao lo co Ak lk ck sf nw ord keep ks := h.ch c (fun _ _ _ h => h)
theorem DR.mono (h : DR T w F g n gs gm Ao lo co Ak lk ck sf nw ord keep ks) (hF : ∀ k, k < w.heap.size → F k → G k) (hg : g < w.heap.size) : DR T w G g n gs gm Ao lo co Ak lk ck sf nw ord keep ks := by
  obtain ⟨l, clk, h1, h2, h3, h4, h5⟩ := h.ex
  obtain ⟨zz, hS⟩ := h.hZ
  exact ⟨⟨zz, hS⟩, ⟨l, clk, h1, h2, h3, fun k b c' hm => by
    obtain ⟨a1, a2, a3⟩ := h4 k b c' hm
    exact ⟨a1, a2, hF _ a1.lt a3⟩, h5⟩, h.hO.mono hF, h.hK.mono hF, h.dis, hF _ hg h.fg, hF _ hS.lt h.fs, hF _ h1.lt h.fm⟩
/-- A row of another kind of element than block g has stays as g changes. -/
theorem Row.chB {E : TypeId} {sz m : Nat} {v : Value} {xs : List Value} {b : Nat} {t : TypeId} {cs : Array Value} (h : Row w F E sz v m xs) (c : Ch (fun k => k = b) w w') (hb : Blk w b t cs) (ht : t ≠ E) : Row w' F E sz v m xs := by
  obtain ⟨⟨h1, h2⟩, h3⟩ := h
  refine ⟨⟨h1, ?_⟩, h3⟩
  rcases h2 with h2 | ⟨r, cap, cur, rfl, hb0, hg, rest⟩
  · exact .inl h2
  · have hr : Blk w r E cur := hg
    exact .inr ⟨r, cap, cur, rfl, hb0, (c.block r hr.lt (fun e => (hb.ne_of hr ht) e.symm)).trans hg, rest⟩
theorem Row.chM {E : TypeId} {sz m : Nat} {v : Value} {xs : List Value} {b : Nat} {l : List KE} {clk : Nat} (h : Row w F E sz v m xs) (c : Ch (fun k => k = b) w w') (hb : KV w b l clk) : Row w' F E sz v m xs := by
  obtain ⟨⟨h1, h2⟩, h3⟩ := h
  refine ⟨⟨h1, ?_⟩, h3⟩
  rcases h2 with h2 | ⟨r, cap, cur, rfl, hb0, hg, rest⟩
  · exact .inl h2
  · have hr : Blk w r E cur := hg
    exact .inr ⟨r, cap, cur, rfl, hb0, (c.block r hr.lt (fun e => (hb.ne hr) e.symm)).trans hg, rest⟩
/-- The record itself has changed. -/
theorem DR.recd {cs : Array Value} (h : DR T w F g n gs gm Ao lo co Ak lk ck sf nw ord keep ks) (c : Ch (fun k => k = g) w w') (hD : Blk w g T.D cs) : DR T w' F g n gs gm Ao lo co Ak lk ck sf nw ord keep ks := by
  obtain ⟨l, clk, h1, h2, h3, h4, h5⟩ := h.ex
  obtain ⟨zz, hS⟩ := h.hZ
  exact ⟨⟨zz, hS.ch c (fun e => (hD.ne_of hS T.ds) e.symm)⟩, ⟨l, clk, h1.ch c (h1.ne hD), h2, h3, fun k b c' hm => by
    obtain ⟨a1, a2, a3⟩ := h4 k b c' hm
    exact ⟨a1.ch c (fun e => (hD.ne_of a1 T.ds) e.symm), a2, a3⟩, h5⟩, h.hO.chB c hD T.di, h.hK.chB c hD T.di, h.dis, h.fg, h.fs, h.fm⟩
/-- The safe sectors have changed. -/
theorem DR.safe {sf' : List UInt8} (h : DR T w F g n gs gm Ao lo co Ak lk ck sf nw ord keep ks) (c : Ch (fun k => k = gs) w w') (hb : ∃ zz : List Value, Blk w' gs T.S (sf'.map u8v ++ zz).toArray) : DR T w' F g n gs gm Ao lo co Ak lk ck sf' nw ord keep ks := by
  obtain ⟨l, clk, h1, h2, h3, h4, h5⟩ := h.ex
  obtain ⟨zz, hS⟩ := h.hZ
  exact ⟨hb, ⟨l, clk, h1.ch c (h1.ne hS), h2, h3, fun k b c' hm => by
    obtain ⟨a1, a2, a3⟩ := h4 k b c' hm
    exact ⟨a1.ch c a2, a2, a3⟩, h5⟩, h.hO.chB c hS T.si, h.hK.chB c hS T.si, h.dis, h.fg, h.fs, h.fm⟩
/-- A dirty sector has changed. -/
theorem DR.dirty {nw' : List UInt8} {k b : Nat} {cs : Array Value} (h : DR T w F g n gs gm Ao lo co Ak lk ck sf nw ord keep ks) (hbk : Blk w b T.S cs) (he : ∀ l clk, KV w gm l clk → ∃ c, (k, b, c) ∈ l) (hne : b ≠ gs) (c : Ch (fun k => k = b) w w') (hb : Blk w' b T.S ((sec nw' k).map u8v).toArray) (hs : ∀ j, j ∈ ks → j ≠ k → sec nw' j = sec nw j) : DR T w' F g n gs gm Ao lo co Ak lk ck sf nw' ord keep ks := by
  obtain ⟨l, clk, h1, h2, h3, h4, h5⟩ := h.ex
  obtain ⟨c0, hc0⟩ := he l clk h1
  obtain ⟨zz, hS⟩ := h.hZ
  refine ⟨⟨zz, hS.ch c (fun e => hne e.symm)⟩, ⟨l, clk, h1.ch c (h1.ne hbk), h2, h3, fun k' b' c' hm => ?_, h5⟩, h.hO.chB c hbk T.si, h.hK.chB c hbk T.si, h.dis, h.fg, h.fs, h.fm⟩
  obtain ⟨a1, a2, a3⟩ := h4 k' b' c' hm
  by_cases hbb : b' = b
  · subst hbb
    obtain rfl := h5 k' k b' c' c0 hm hc0
    exact ⟨hb, a2, a3⟩
  · refine ⟨?_, a2, a3⟩
    have hkk : k' ≠ k := fun e => hbb (by subst e; exact KV.uniq hc0 hm h2)
    rw [hs k' ((h3 k').1 ⟨b', c', hm⟩) hkk]
    exact a1.ch c hbb
/-- A sector comes into the map. -/
theorem DR.ins {k b : Nat} (h : DR T w F g n gs gm Ao lo co Ak lk ck sf nw ord keep ks) (hk : k ∉ ks) (hb : Blk w b T.S ((sec nw k).map u8v).toArray) (hne : b ≠ gs) (hF : F b) (hnew : ∀ l clk, KV w gm l clk → ∀ k' c', (k', b, c') ∉ l) (hc : Ch (fun k => k = gm) w w') (hm : ∀ l clk, KV w gm l clk → KV w' gm (l ++ [(k, b, clk)]) (clk + 1)) : DR T w' F g n gs gm Ao lo co Ak lk ck sf nw ord keep (ks ++ [k]) := by
  obtain ⟨l, clk, h1, h2, h3, h4, h5⟩ := h.ex
  have hnk : ∀ e ∈ l, e.1 ≠ k := fun e he e1 => hk ((h3 k).1 ⟨e.2.1, e.2.2, by rw [← e1]; exact he⟩)
  obtain ⟨zz, hS⟩ := h.hZ
  refine ⟨⟨zz, hS.ch hc (fun e => (h1.ne hS) e.symm)⟩, ⟨l ++ [(k, b, clk)], clk + 1, hm l clk h1, ?_, fun k' => ?_, fun k' b' c' hme => ?_, fun k1 k2 b' c1 c2 hm1 hm2 => ?_⟩, h.hO.chM hc h1, h.hK.chM hc h1, h.dis, h.fg, h.fs, h.fm⟩
  · rw [List.map_append, List.nodup_append]
    refine ⟨h2, by simp, fun a ha b' hb' e => ?_⟩
    simp at hb'
    subst e; subst hb'
    obtain ⟨x, hx, hx2⟩ := List.mem_map.1 ha
    exact hnk x hx hx2
  · rw [List.mem_append, ← h3 k', List.mem_singleton]
    constructor
    · rintro ⟨b', c', hme⟩
      rcases List.mem_append.1 hme with h | h
      · exact .inl ⟨b', c', h⟩
      · simp at h; exact .inr h.1
    · rintro (⟨b', c', hme⟩ | rfl)
      · exact ⟨b', c', List.mem_append.2 (.inl hme)⟩
      · exact ⟨b, clk, List.mem_append.2 (.inr (by simp))⟩
  · rcases List.mem_append.1 hme with h' | h'
    · obtain ⟨a1, a2, a3⟩ := h4 k' b' c' h'
      exact ⟨a1.ch hc (fun e => (h1.ne a1) e.symm), a2, a3⟩
    · simp at h'
      obtain ⟨rfl, rfl, rfl⟩ := h'
      exact ⟨hb.ch hc (fun e => (h1.ne hb) e.symm), hne, hF⟩
  · rcases List.mem_append.1 hm1 with a | a <;> rcases List.mem_append.1 hm2 with b1 | b1
    · exact h5 _ _ _ _ _ a b1
    · simp at b1; obtain ⟨rfl, rfl, rfl⟩ := b1; exact absurd a (hnew l _ h1 _ _)
    · simp at a; obtain ⟨rfl, rfl, rfl⟩ := a; exact absurd b1 (hnew l _ h1 _ _)
    · simp at a b1; rw [a.1, b1.1]
/-- A sector leaves the map. -/
theorem DR.del {k : Nat} (h : DR T w F g n gs gm Ao lo co Ak lk ck sf nw ord keep ks) (hc : Ch (fun k => k = gm) w w') (hm : ∀ l clk, KV w gm l clk → KV w' gm (l.filter (fun e => e.1 != k)) clk) : DR T w' F g n gs gm Ao lo co Ak lk ck sf nw ord keep (ks.filter (· != k)) := by
  obtain ⟨l, clk, h1, h2, h3, h4, h5⟩ := h.ex
  have hin : ∀ {e : KE}, e ∈ l.filter (fun e => e.1 != k) → e ∈ l := fun he => (List.mem_filter.1 he).1
  obtain ⟨zz, hS⟩ := h.hZ
  refine ⟨⟨zz, hS.ch hc (fun e => (h1.ne hS) e.symm)⟩, ⟨l.filter (fun e => e.1 != k), clk, hm l clk h1, ?_, fun k' => ?_, fun k' b' c' hme => ?_, fun k1 k2 b' c1 c2 hm1 hm2 => h5 _ _ _ _ _ (hin hm1) (hin hm2)⟩, h.hO.chM hc h1, h.hK.chM hc h1, h.dis, h.fg, h.fs, h.fm⟩
  · exact h2.sublist (List.Sublist.map _ (List.filter_sublist))
  · rw [List.mem_filter, ← h3 k']
    constructor
    · rintro ⟨b', c', hme⟩
      have := List.mem_filter.1 hme
      exact ⟨⟨b', c', this.1⟩, this.2⟩
    · rintro ⟨⟨b', c', hme⟩, hn⟩
      exact ⟨b', c', List.mem_filter.2 ⟨hme, hn⟩⟩
  · obtain ⟨a1, a2, a3⟩ := h4 k' b' c' (hin hme)
    exact ⟨a1.ch hc (fun e => (h1.ne a1) e.symm), a2, a3⟩
/-- What the map says of a sector. -/
theorem DR.find {P : Program} {t kt et : TypeId} (h : DR T w F g n gs gm Ao lo co Ak lk ck sf nw ord keep ks) (ht : P.underlying t = some (.map kt et)) (hk : P.underlying kt = some (.int .i64)) (hz : (P.info? et).map (·.zero) = some (some (.pointer none))) (k : Nat) :
    ∃ p : Option Addr, (∀ x, Ch No w x → (Instr.lookup t (.map (some gm)) (nv k) false).run P x = .ok (.pointer p) x) ∧
      ((p = none ∧ k ∉ ks) ∨ ∃ b, p = some ⟨b, 0, none⟩ ∧ k ∈ ks ∧ Blk w b T.S ((sec nw k).map u8v).toArray ∧ b ≠ gs ∧ F b ∧ ∀ l clk, KV w gm l clk → ∃ c, (k, b, c) ∈ l) := by
  obtain ⟨l, clk, h1, h2, h3, h4, h5⟩ := h.ex
  by_cases hin : k ∈ ks
  · obtain ⟨b, c, hm⟩ := (h3 k).2 hin
    refine ⟨some ⟨b, 0, none⟩, fun x hx => run_lookY ht hk (h1.ch hx (fun h => h)) ⟨c, hm⟩ h2, .inr ⟨b, rfl, hin, (h4 k b c hm).1, (h4 k b c hm).2.1, (h4 k b c hm).2.2, fun l' clk' h' => ?_⟩⟩
    obtain ⟨rfl, _⟩ := KV.inj h1 h'
    exact ⟨c, hm⟩
  · refine ⟨none, fun x hx => run_lookN ht hk hz (h1.ch hx (fun h => h)) (fun e he e1 => hin ((h3 k).1 ⟨e.2.1, e.2.2, by rw [← e1]; exact he⟩)), .inl ⟨rfl, hin⟩⟩
/-- The list of dirty sectors, as tight as it may be told. -/
theorem DR.oRow (h : DR T w F g n gs gm Ao lo co Ak lk ck sf nw ord keep ks) : Row w (fun k => (Value.slice Ao lo co).ownBlock = some k ∨ w.heap.size ≤ k) T.I 1 (.slice Ao lo co) lo (ord.map nv) := ⟨h.hO.own, fun k hk => .inl hk⟩
theorem DR.app {A' : Option Addr} {l' c' : Nat} {ord' : List Nat} (h : DR T w F g n gs gm Ao lo co Ak lk ck sf nw ord keep ks) (hF : ∀ k, w.heap.size ≤ k → F k) (R : Row w' (fun k => (Value.slice Ao lo co).ownBlock = some k ∨ w.heap.size ≤ k) T.I 1 (.slice A' l' c') l' (ord'.map nv))
    (c : Ch (fun k => (Value.slice Ao lo co).ownBlock = some k ∨ w.heap.size ≤ k) w w') : DR T w' F g n gs gm A' l' c' Ak lk ck sf nw ord' keep ks := by
  obtain ⟨l, clk, h1, h2, h3, h4, h5⟩ := h.ex
  have hown : ∀ k, (Value.slice Ao lo co).ownBlock = some k → ∃ cs, Blk w k T.I cs := fun k hk => by
    rcases h.hO.own.2 with ⟨e1, _⟩ | ⟨r, cap, cur, e1, _, hg, _⟩
    · rw [e1] at hk; simp [Value.ownBlock] at hk
    · rw [e1] at hk; simp [Value.ownBlock] at hk; subst hk; exact ⟨cur, hg⟩
  have ns : ∀ {b : Nat} {t : TypeId} {cs : Array Value}, Blk w b t cs → t ≠ T.I → ¬ ((Value.slice Ao lo co).ownBlock = some b ∨ w.heap.size ≤ b) := fun hb ht hh => by
    rcases hh with hh | hh
    · obtain ⟨cs, hcs⟩ := hown _ hh; exact hb.ne_of hcs ht rfl
    · have := hb.lt; omega
  have hkl : ∀ k, k < w.heap.size → (Value.slice Ak lk ck).ownBlock = some k → ¬ ((Value.slice Ao lo co).ownBlock = some k ∨ w.heap.size ≤ k) := fun k hk e hh => by
    rcases hh with hh | hh
    · exact h.dis k hh e
    · omega
  obtain ⟨zz, hS⟩ := h.hZ
  refine ⟨⟨zz, hS.ch c (ns hS T.si)⟩, ⟨l, clk, h1.ch c (fun hh => ?_), h2, h3, fun k b c' hm => ?_, h5⟩, R.mono (fun k _ hk => ?_), ?_, fun k hk e => ?_, h.fg, h.fs, h.fm⟩
  · rcases hh with hh | hh
    · obtain ⟨cs, hcs⟩ := hown _ hh; exact h1.ne hcs rfl
    · have := h1.lt; omega
  · obtain ⟨a1, a2, a3⟩ := h4 k b c' hm
    exact ⟨a1.ch c (ns a1 T.si), a2, a3⟩
  · rcases hk with hk | hk
    · exact h.hO.at_ k hk
    · exact hF k hk
  · have : Row w (fun k => (Value.slice Ak lk ck).ownBlock = some k ∧ F k) T.I 1 (.slice Ak lk ck) lk (keep.map i64) := ⟨h.hK.own, fun k hk => ⟨hk, h.hK.at_ k hk⟩⟩
    exact (this.ch c (fun k hk e => hkl k hk e.1)).mono (fun k _ hk => hk.2)
  · rcases R.at_ k hk with h' | h'
    · exact h.dis k h' e
    · have := (h.hK.own.lt k e).2; omega
theorem spl_app {l z c : List UInt8} {o : Nat} (h : o + c.length ≤ l.length) : spl (l ++ z) o c = spl l o c ++ z := by
  unfold spl
  rw [List.take_append_of_le_length (by omega), List.drop_append_of_le_length h, List.append_assoc, List.append_assoc, List.append_assoc]
theorem rng_sec {sf : List UInt8} {zz : List Value} {i : Nat} {t : TypeId} (h : Blk w gs t (sf.map u8v ++ zz).toArray) (hi : 32 * i + 32 ≤ sf.length) : w.rangeAt gs (0 + i * 32) ((sec sf i).map u8v) := rng_blk h (by
  simp only [List.length_map, sec, List.length_take, List.length_drop, List.map_take, List.map_drop]
  rw [Nat.zero_add, Nat.mul_comm i 32, Nat.min_eq_left (by omega), List.drop_append_of_le_length (by rw [List.length_map]; omega), List.take_append_of_le_length (by rw [List.length_drop, List.length_map]; omega)])
end
section
variable {P : Program} {Q : Exit → Act → World → Prop} {S : World → Prop} {n : Nat} {e : Env} {w : World} {rt : TypeId} {pos : String} {af : Array Edge} {gd : Option (Nat × Bool)} {d : Nat} {dst : Option Tmp} {K : Env → World → Prop}
/-- Bytes are stored whole into a part of a block of bytes. -/
theorem e_stP {t : TypeId} {a b : Operand} {g o : Nat} {E : TypeId} {L v : List UInt8} (hi : (P.info? t).map (·.size) = some v.length) (hx : ev e a = some (.pointer (some ⟨g, o, none⟩))) (hy : ev e b = some (hv v)) (hb : Blk w g E (L.map u8v).toArray) (ho : o + v.length ≤ L.length)
    (k : ∀ w', Blk w' g E ((spl L o v).map u8v).toArray → Ch (fun k => k = g) w w' → w'.heap.size = w.heap.size → K e w') : OpE P n ⟨none, .store t a b, rt, pos, af, gd⟩ e w Q K :=
  e_stA (vs := v.map u8v) (by rw [List.length_map]; exact hi) (oneL one_u8 _) hx hy hb (by simpa using ho) (fun w' cs' h hl => k w' (by
    have : cs' = ((spl L o v).map u8v).toArray := by
      apply Array.toList_inj.1
      rw [hl]
      simp [spl, List.map_take, List.map_drop]
    exact this ▸ h))
/-- Bytes are copied into a part of a block of bytes. -/
theorem e_copyP {t t' E E' : TypeId} {a b : Operand} {g o m c l c' : Nat} {A : Option Addr} {L xs : List UInt8} {F : Nat → Prop} (hlt : Nat.blt d n = true) (ht : P.underlying t = some (.slice E)) (hsz : (P.info? E).map (·.size) = some 1)
    (hx : ev e a = some (.slice (some ⟨g, o, none⟩) m c)) (hy : ev e b = some (.slice A l c')) (hb : Blk w g E' (L.map u8v).toArray) (X : Sl w F u8v A l c' xs) (ho : o + m ≤ L.length)
    (k : ∀ w', Blk w' g E' ((spl L o (xs.take (min l m))).map u8v).toArray → Ch (fun k => k = g) w w' → w'.heap.size = w.heap.size → K ((d, i64 ((min l m : Nat) : Int)) :: e) w') : OpE P n ⟨some d, .call { callee := .builtin .copy, args := #[a, b], argTypes := #[t, t'] }, rt, pos, af, gd⟩ e w Q K :=
  e_copy hlt ht hsz one_u8 hx hy hb X ho (fun w' h => k w' (by
    have hlen : (xs.take (min l m)).length = min l m := by rw [List.length_take, X.len]; omega
    rw [spl, hlen]; exact h))
/-- The same, with other cells behind. -/
theorem e_stZ {t : TypeId} {a b : Operand} {g o : Nat} {E : TypeId} {L v : List UInt8} {zz : List Value} (hi : (P.info? t).map (·.size) = some v.length) (hx : ev e a = some (.pointer (some ⟨g, o, none⟩))) (hy : ev e b = some (hv v)) (hb : Blk w g E (L.map u8v ++ zz).toArray) (ho : o + v.length ≤ L.length)
    (k : ∀ w', Blk w' g E ((spl L o v).map u8v ++ zz).toArray → Ch (fun k => k = g) w w' → w'.heap.size = w.heap.size → K e w') : OpE P n ⟨none, .store t a b, rt, pos, af, gd⟩ e w Q K :=
  e_stA (vs := v.map u8v) (by rw [List.length_map]; exact hi) (oneL one_u8 _) hx hy hb (by simp; omega) (fun w' cs' h hl => k w' (by
    have : cs' = ((spl L o v).map u8v ++ zz).toArray := by
      apply Array.toList_inj.1
      rw [hl]
      show (L.map u8v ++ zz).take o ++ v.map u8v ++ (L.map u8v ++ zz).drop (o + (v.map u8v).length) = _
      rw [List.take_append_of_le_length (by rw [List.length_map]; omega), List.drop_append_of_le_length (by rw [List.length_map, List.length_map]; omega)]
      simp [spl, List.map_take, List.map_drop]
    exact this ▸ h))
theorem e_copyZ {t t' E E' : TypeId} {a b : Operand} {g o m c l c' : Nat} {A : Option Addr} {L xs : List UInt8} {zz : List Value} {F : Nat → Prop} (hlt : Nat.blt d n = true) (ht : P.underlying t = some (.slice E)) (hsz : (P.info? E).map (·.size) = some 1)
    (hx : ev e a = some (.slice (some ⟨g, o, none⟩) m c)) (hy : ev e b = some (.slice A l c')) (hb : Blk w g E' (L.map u8v ++ zz).toArray) (X : Sl w F u8v A l c' xs) (ho : o + m ≤ L.length)
    (k : ∀ w', Blk w' g E' ((spl L o (xs.take (min l m))).map u8v ++ zz).toArray → Ch (fun k => k = g) w w' → w'.heap.size = w.heap.size → K ((d, i64 ((min l m : Nat) : Int)) :: e) w') : OpE P n ⟨some d, .call { callee := .builtin .copy, args := #[a, b], argTypes := #[t, t'] }, rt, pos, af, gd⟩ e w Q K := by
  obtain ⟨inf, hinf, hs1⟩ := Option.map_eq_some_iff.1 hsz
  have hlen : (xs.take (min l m)).length = min l m := by rw [List.length_take, X.len]; omega
  obtain ⟨q, hq⟩ : ∃ q, q = min l m := ⟨_, rfl⟩
  have hq' : Nat.min l m = q := hq.symm
  have hqm : q ≤ m := by omega
  have X2 := X.rd.take q
  rw [← List.map_take] at X2
  rw [← hq] at hlen k
  generalize xs.take q = ys at X2 hlen k
  have hfirst : (Builtin.firstCells 1 q (.slice A l c')).run P w = .ok (ys.map u8v).toArray w := by
    rcases X2 with h | ⟨b', o', rfl, _, hc⟩
    · have h0 : ys = [] := by simpa using h
      subst h0
      have hq0 : q = 0 := by simpa using hlen.symm
      subst hq0
      cases A <;> simp [Builtin.firstCells, loadCells, loadCellsFrom]
    · exact run_firstCells_some (P := P) (w := w) 1 q ⟨b', o', none⟩ l c' (ys.map u8v) (by simp [hlen]) (fun j v hj => by rw [Addr.add_mid]; exact hc j v hj)
  have hst := run_storeCells_at P g o E' (ys.map u8v) 0 (L.map u8v ++ zz).toArray w hb (by simp [hlen]; omega) (oneL one_u8 _)
  simp only [Nat.add_zero, List.length_map, hlen] at hst
  have hrow : ((L.map u8v ++ zz).toArray.toList.take o ++ ys.map u8v ++ (L.map u8v ++ zz).toArray.toList.drop (o + q)).toArray = ((spl L o ys).map u8v ++ zz).toArray := by
    show ((L.map u8v ++ zz).take o ++ ys.map u8v ++ (L.map u8v ++ zz).drop (o + q)).toArray = _
    rw [List.take_append_of_le_length (by rw [List.length_map]; omega), List.drop_append_of_le_length (by rw [List.length_map]; omega)]
    simp [spl, hlen, List.map_append, List.map_take, List.map_drop]
  rw [hrow] at hst
  have hrun : (Builtin.copy_ #[t, t'] rt #[.slice (some ⟨g, o, none⟩) m c, .slice A l c']).run P w = .ok (i64 (q : Int)) (w.setRow g ((spl L o ys).map u8v ++ zz).toArray) := by
    generalize (spl L o ys).map u8v ++ zz = Z at hst
    generalize ys.map u8v = Y at hst hfirst
    simp [Builtin.copy_, run_underlying ht, Builtin.lenOf, sizeOf, typeInfo, hinf, hs1, hq', hfirst, hst, goInt]
  refine e_of_run rfl hlt (fun a F => ?_) (k _ (setRow_heap w g _ _ E' _ hb) (Ch.setRow w g _) (by simp))
  simp [execOp, resolve, invoke, builtin, F.ev hx, F.ev hy, hrun]
/-- A field of the record is stored. -/
theorem e_stD {T : DTy} {F : Nat → Prop} {g N gs gm : Nat} {Ao Ak : Option Addr} {lo co lk ck : Nat} {sf nw : List UInt8} {ord : List Nat} {keep : List Int} {ks : List Nat} {t : TypeId} {a b : Operand} {j : Nat} {cs : Array Value} {v : Value} (hi : (P.info? t).map (·.size) = some 1) (h1 : v.oneCell' = true) (hx : ev e a = some (.pointer (some ⟨g, j, none⟩))) (hy : ev e b = some v) (hD : Blk w g T.D cs) (hR : DR T w F g N gs gm Ao lo co Ak lk ck sf nw ord keep ks) (hj : j < cs.size)
    (k : ∀ w', Blk w' g T.D (cs.setIfInBounds j v) → DR T w' F g N gs gm Ao lo co Ak lk ck sf nw ord keep ks → Ch (fun k => k = g) w w' → w'.heap.size = w.heap.size → K e w') : OpE P n ⟨none, .store t a b, rt, pos, af, gd⟩ e w Q K :=
  e_st hi h1 hx hy hD hj (fun w' h c s => k w' h (hR.recd c hD) c s)
end
section
variable {P : Program} {Q : Exit → Act → World → Prop} {S : World → Prop} {n : Nat} {e : Env} {w : World} {rt : TypeId} {pos : String} {af : Array Edge} {gd : Option (Nat × Bool)} {d : Nat} {dst : Option Tmp} {K : Env → World → Prop}
/-- A dirty sector leaves the map; one comes into it. -/
theorem e_dDel {T : DTy} {F : Nat → Prop} {g N gs gm : Nat} {Ao Ak : Option Addr} {lo co lk ck : Nat} {sf nw : List UInt8} {ord : List Nat} {keep : List Int} {ks : List Nat} {t kt et : TypeId} {x i : Operand} {ts : Array TypeId} {k : Nat} (ht : P.underlying t = some (.map kt et)) (hts : ts[0]? = some t) (hk : P.underlying kt = some (.int .i64)) (hx : ev e x = some (.map (some gm))) (hi : ev e i = some (nv k)) (hR : DR T w F g N gs gm Ao lo co Ak lk ck sf nw ord keep ks) (hin : k ∈ ks)
    (kk : ∀ w', DR T w' F g N gs gm Ao lo co Ak lk ck sf nw ord keep (ks.filter (· != k)) → Ch (fun k => k = gm) w w' → w'.heap.size = w.heap.size → K e w') : OpE P n ⟨none, .call { callee := .builtin .delete, args := #[x, i], argTypes := ts }, rt, pos, af, gd⟩ e w Q K := by
  obtain ⟨l, clk, h1, h2, h3, h4, h5⟩ := hR.ex
  obtain ⟨b, c, hm⟩ := (h3 k).2 hin
  refine e_mapDel ht hts hk hx hi h1 ⟨c, hm⟩ h2 (fun w' h hc hsz => kk w' (hR.del hc (fun l' clk' h' => ?_)) hc hsz)
  obtain ⟨rfl, rfl⟩ := KV.inj h1 h'
  exact h
theorem e_dIns {T : DTy} {F : Nat → Prop} {g N gs gm : Nat} {Ao Ak : Option Addr} {lo co lk ck : Nat} {sf nw : List UInt8} {ord : List Nat} {keep : List Int} {ks : List Nat} {t kt et : TypeId} {x i y : Operand} {k b : Nat} (ht : P.underlying t = some (.map kt et)) (hk : P.underlying kt = some (.int .i64)) (hx : ev e x = some (.map (some gm))) (hi : ev e i = some (nv k)) (hy : ev e y = some (ptr b)) (hR : DR T w F g N gs gm Ao lo co Ak lk ck sf nw ord keep ks) (hin : k ∉ ks)
    (hb : Blk w b T.S ((sec nw k).map u8v).toArray) (hne : b ≠ gs) (hF : F b) (hnew : ∀ l clk, KV w gm l clk → ∀ k' c', (k', b, c') ∉ l)
    (kk : ∀ w', DR T w' F g N gs gm Ao lo co Ak lk ck sf nw ord keep (ks ++ [k]) → Ch (fun k => k = gm) w w' → w'.heap.size = w.heap.size → K e w') : OpE P n ⟨none, .mapUpdate t x i y, rt, pos, af, gd⟩ e w Q K := by
  obtain ⟨l, clk, h1, h2, h3, h4, h5⟩ := hR.ex
  refine e_mapNew ht hk hx hi hy h1 (fun e he e1 => hin ((h3 k).1 ⟨e.2.1, e.2.2, by rw [← e1]; exact he⟩)) (fun w' h hc hsz => kk w' (hR.ins hin hb hne hF (fun l' clk' h' k' c' hm => ?_) hc (fun l' clk' h' => ?_)) hc hsz)
  · exact hnew l' clk' h' k' c' hm
  · obtain ⟨rfl, rfl⟩ := KV.inj h1 h'
    exact h
end
/-- The list to be kept, by the kind of its block. -/
theorem DR.kSl {T : DTy} {w : World} {F : Nat → Prop} {g n gs gm : Nat} {Ao Ak : Option Addr} {lo co lk ck : Nat} {sf nw : List UInt8} {ord : List Nat} {keep : List Int} {ks : List Nat} (h : DR T w F g n gs gm Ao lo co Ak lk ck sf nw ord keep ks) : Sl w (fun k => ∃ cs, Blk w k T.I cs) i64 Ak lk ck keep := by
  have R : Row w (fun k => ∃ cs, Blk w k T.I cs) T.I 1 (.slice Ak lk ck) lk (keep.map i64) := ⟨h.hK.own, fun k hk => by
    rcases h.hK.own.2 with ⟨e1, _⟩ | ⟨r, cap, cur, e1, _, hg, _⟩
    · rw [e1] at hk; simp [Value.ownBlock] at hk
    · rw [e1] at hk; simp [Value.ownBlock] at hk; subst hk; exact ⟨cur, hg⟩⟩
  exact R.sl
/-- Another list to be kept; no dirty sectors more. -/
theorem DR.setKeep {T : DTy} {w : World} {F : Nat → Prop} {g n gs gm : Nat} {Ao Ak A' : Option Addr} {lo co lk ck l' c' : Nat} {sf nw : List UInt8} {ord : List Nat} {keep keep' : List Int} {ks : List Nat} (h : DR T w F g n gs gm Ao lo co Ak lk ck sf nw ord keep ks) (R : Row w F T.I 1 (.slice A' l' c') l' (keep'.map i64)) (hd : ∀ k, (Value.slice Ao lo co).ownBlock = some k → (Value.slice A' l' c').ownBlock ≠ some k) : DR T w F g n gs gm Ao lo co A' l' c' sf nw ord keep' ks :=
  ⟨h.hZ, h.ex, h.hO, R, hd, h.fg, h.fs, h.fm⟩
theorem DR.fresh {T : DTy} {w : World} {F : Nat → Prop} {g n gs gm gm' clk : Nat} {Ao Ak : Option Addr} {lo co lk ck : Nat} {sf nw nw' : List UInt8} {ord : List Nat} {keep : List Int} {ks : List Nat} (h : DR T w F g n gs gm Ao lo co Ak lk ck sf nw ord keep ks) (hm : KV w gm' [] clk) (hF : F gm') : DR T w F g n gs gm' (Option.none) 0 0 Ak lk ck sf nw' [] keep [] :=
  ⟨h.hZ, ⟨[], clk, hm, by simp, by simp, by simp, by simp⟩, Row.nil _ _ _ _, h.hK, by simp [Value.ownBlock], h.fg, h.fs, hF⟩
/-- The order is told empty; the map is, too. -/
theorem DR.clean {T : DTy} {w : World} {F : Nat → Prop} {g n gs gm : Nat} {Ao Ak : Option Addr} {lo co lk ck : Nat} {sf nw nw' : List UInt8} {ord : List Nat} {keep : List Int} {ks : List Nat} (h : DR T w F g n gs gm Ao lo co Ak lk ck sf nw ord keep ks) (hk : ∀ k, k ∉ ks) : DR T w F g n gs gm (Option.none) 0 0 Ak lk ck sf nw' [] keep [] := by
  obtain ⟨l, clk, h1, h2, h3, h4, h5⟩ := h.ex
  have hl : ∀ k b c, (k, b, c) ∉ l := fun k b c hm => hk k ((h3 k).1 ⟨b, c, hm⟩)
  obtain ⟨zz, hS⟩ := h.hZ
  exact ⟨⟨zz, hS⟩, ⟨l, clk, h1, h2, fun k => ⟨fun ⟨b, c, hm⟩ => absurd hm (hl k b c), fun hm => by cases hm⟩, fun k b c hm => absurd hm (hl k b c), h5⟩, Row.nil _ _ _ _, h.hK, by simp [Value.ownBlock], h.fg, h.fs, h.fm⟩
section
variable {P : Program} {S : World → Prop} {n : Nat} {e : Env} {dst : Option Tmp} {rt : TypeId} {pos : String} {af : Array Edge} {gd : Option (Nat × Bool)}
/-- arr[:h], arr[l:] of an array of 32 one-cell elements. -/
theorem p_slTo {t E : TypeId} {x y : Operand} {b o N h : Nat} {k : IntKind} (ht : P.underlying t = some (.array (N + 1) E)) (hsz : (P.info? E).map (·.size) = some 1) (hx : ev e x = some (.pointer (some ⟨b, o, none⟩))) (hy : ev e y = some (.int k (h : Int))) (hh : h ≤ N + 1) :
    Pu P S n ⟨dst, .slice t x none (some y) none, rt, pos, af, gd⟩ e (.slice (some ⟨b, o, none⟩) h (N + 1)) := by
  have := p_slA (S := S) (n := n) (e := e) (dst := dst) (rt := rt) (pos := pos) (af := af) (gd := gd) (lo := none) (hi := some y) (l := 0) (h := h) ht hsz hx rfl ⟨k, hy⟩ (by omega) hh
  rwa [if_neg (by omega), Nat.zero_mul, Nat.add_zero, Nat.sub_zero, Nat.sub_zero] at this
end
theorem Sl.to {w : World} {b : Nat} {t : TypeId} {L : List UInt8} {h N : Nat} (hb : Blk w b t (L.map u8v).toArray) (hN : L.length = N) (hh : h ≤ N) : Sl w (fun k => k = b) u8v (some ⟨b, 0, none⟩) h N (L.take h) := by
  refine ⟨?_, by rw [List.length_take]; omega, hh⟩
  have := (Rd.of_lit hb).take h
  rw [show (L.map u8v).toArray.toList = L.map u8v from rfl, ← List.map_take] at this
  exact this
theorem DR.notin {T : DTy} {w : World} {F : Nat → Prop} {g n gs gm b : Nat} {Ao Ak : Option Addr} {lo co lk ck : Nat} {sf nw : List UInt8} {ord : List Nat} {keep : List Int} {ks : List Nat} (h : DR T w F g n gs gm Ao lo co Ak lk ck sf nw ord keep ks) (hb : ¬ F b) : ∀ l clk, KV w gm l clk → ∀ k' c', (k', b, c') ∉ l := fun l clk hl k' c' hm => by
  obtain ⟨l2, clk2, h1, h2, h3, h4, h5⟩ := h.ex
  obtain ⟨rfl, rfl⟩ := KV.inj h1 hl
  exact hb (h4 k' b c' hm).2.2
theorem DR.notO {T : DTy} {w : World} {F : Nat → Prop} {g n gs gm b : Nat} {t : TypeId} {cs : Array Value} {Ao Ak : Option Addr} {lo co lk ck : Nat} {sf nw : List UInt8} {ord : List Nat} {keep : List Int} {ks : List Nat} (h : DR T w F g n gs gm Ao lo co Ak lk ck sf nw ord keep ks) (hb : Blk w b t cs) (ht : t ≠ T.I) : ¬ ((Value.slice Ao lo co).ownBlock = some b ∨ w.heap.size ≤ b) := fun hh => by
  rcases hh with hh | hh
  · rcases h.hO.own.2 with ⟨e1, _⟩ | ⟨r, cap, cur, e1, _, hg, _⟩
    · rw [e1] at hh; simp [Value.ownBlock] at hh
    · rw [e1] at hh; simp [Value.ownBlock] at hh; subst hh; exact hb.ne_of (show Blk w _ T.I cur from hg) ht rfl
  · have := hb.lt; omega
theorem sl_one {w : World} {F : Nat → Prop} {A : Option Addr} {c i : Nat} (h : Sl w F i64 A 1 c [(i : Int)]) : Sl w F nv A 1 c [i] := ⟨h.rd, rfl, h.cap⟩
/-- A disk in memory. -/
def DkAt (T : DTy) (w : World) (F : Nat → Prop) (g n : Nat) (d : DS) : Prop :=
  ∃ gs cs gm Ao lo co Ak lk ck, Blk w g T.D (dcell gs n cs gm Ao lo co d.off d.armed Ak lk ck d.torn) ∧ DR T w F g n gs gm Ao lo co Ak lk ck d.safe d.now d.ord d.keep d.ord
theorem DkAt.ch {T : DTy} {w w' : World} {F U : Nat → Prop} {g n : Nat} {d : DS} (h : DkAt T w F g n d) (c : Ch U w w') (hn : ∀ k, k < w.heap.size → F k → ¬ U k) : DkAt T w' F g n d := by
  obtain ⟨gs, cs, gm, Ao, lo, co, Ak, lk, ck, hD, hR⟩ := h
  exact ⟨gs, cs, gm, Ao, lo, co, Ak, lk, ck, hD.ch c (hn g hD.lt hR.fg), hR.ch c hn⟩
theorem DkAt.no {T : DTy} {w w' : World} {F : Nat → Prop} {g n : Nat} {d : DS} (h : DkAt T w F g n d) (c : Ch No w w') : DkAt T w' F g n d := h.ch c (fun _ _ _ h => h)
theorem DkAt.mono {T : DTy} {w : World} {F G : Nat → Prop} {g n : Nat} {d : DS} (h : DkAt T w F g n d) (hF : ∀ k, k < w.heap.size → F k → G k) : DkAt T w G g n d := by
  obtain ⟨gs, cs, gm, Ao, lo, co, Ak, lk, ck, hD, hR⟩ := h
  exact ⟨gs, cs, gm, Ao, lo, co, Ak, lk, ck, hD, hR.mono hF hD.lt⟩
theorem DkAt.after {T : DTy} {w w' : World} {F U : Nat → Prop} {g n : Nat} {d : DS} (h : DkAt T w F g n d) (c : Ch U w w') (hn : ∀ k, k < w.heap.size → F k → ¬ U k) : DkAt T w' (fun k => F k ∧ (k < w.heap.size ∨ w'.heap.size ≤ k)) g n d :=
  (h.mono (G := fun k => F k ∧ (k < w.heap.size ∨ w'.heap.size ≤ k)) (fun k hk hF => ⟨hF, .inl hk⟩)).ch c (fun k hk hF => hn k hk hF.1)
theorem sl_nv {w : World} {F : Nat → Prop} {A : Option Addr} {l c : Nat} {xs : List Nat} (h : Sl w F nv A l c xs) : Sl w F i64 A l c (xs.map fun i : Nat => (i : Int)) :=
  ⟨by have := h.rd; rw [List.map_map]; exact this, by rw [List.length_map]; exact h.len, h.cap⟩
theorem map_nv (xs : List Nat) : (xs.map fun i : Nat => (i : Int)).map i64 = xs.map nv := by rw [List.map_map]; rfl
theorem getD_memI {x : List Int} {k : Nat} (h : k < x.length) : x.getD k 0 ∈ x := by simp only [List.getD, List.getElem?_eq_getElem h, Option.getD_some]; exact List.getElem_mem h
theorem not_memI {x : List Int} {v : Int} (h : ∀ j, j < x.length → x.getD j 0 ≠ v) : v ∉ x := fun hm => by
  obtain ⟨i, hi, rfl⟩ := List.getElem_of_mem hm
  exact h i hi (by simp [List.getD, List.getElem?_eq_getElem hi])
theorem dis_of {T : DTy} {w : World} {F : Nat → Prop} {g n gs gm : Nat} {Ao Ak : Option Addr} {lo co lk ck : Nat} {sf nw : List UInt8} {ord : List Nat} {keep : List Int} {ks : List Nat} {cs : Array Value} {k : Nat} (hD : Blk w g T.D cs) (hR : DR T w F g n gs gm Ao lo co Ak lk ck sf nw ord keep ks) (h : ¬ F k ∨ ∃ cs, Blk w k T.I cs) : k ≠ g ∧ k ≠ gs ∧ k ≠ gm := by
  obtain ⟨l, clk, h1, _⟩ := hR.ex
  rcases h with h | ⟨cs', h⟩
  · exact ⟨fun e => h (e ▸ hR.fg), fun e => h (e ▸ hR.fs), fun e => h (e ▸ hR.fm)⟩
  · exact ⟨(hD.ne_of h T.di).symm, (hR.hZ.elim fun _ h' => (h'.ne_of h T.si).symm), fun e => h1.ne h e.symm⟩
theorem DR.kcap {T : DTy} {w : World} {F : Nat → Prop} {g n gs gm : Nat} {Ao Ak : Option Addr} {lo co lk ck : Nat} {sf nw : List UInt8} {ord : List Nat} {keep : List Int} {ks : List Nat} (hR : DR T w F g n gs gm Ao lo co Ak lk ck sf nw ord keep ks) : ck ≤ 9223372036854775807 := by
  obtain ⟨A, c, hv, _, hm, _⟩ := hR.hK.form
  cases hv; unfold maxLen at hm; omega
theorem off_of {b : Bool} (h : (if b = true then (7 : Int) else 0) ≠ 0) : b = true := by cases b <;> simp_all
theorem on_of {b : Bool} (h : ¬ (if b = true then (7 : Int) else 0) ≠ 0) : b = false := by cases b <;> simp_all
theorem drop_split {ord : List Nat} {k j : Nat} (h : k < ord.length) (hj : j ∈ ord.drop k) (hne : j ≠ ord.getD k 0) : j ∈ ord.drop (k + 1) := by
  rw [List.drop_eq_getElem_cons h] at hj
  rcases List.mem_cons.1 hj with e | h1
  · exact absurd e (by simpa [List.getD, List.getElem?_eq_getElem h] using hne)
  · exact h1
theorem made_same {zc : Array Value} {v : Value} {sz : Nat} (hz : zc = Array.replicate sz v) (h0 : 0 < sz) (m : Nat) : madeCells zc m = (List.replicate m v).toArray := by
  subst hz
  apply Array.ext
  · simp [madeCells]
  · intro i h1 h2
    have : i % sz < sz := Nat.mod_lt _ h0
    simp [madeCells, this]
section
variable {P : Program} {Q : Exit → Act → World → Prop} {S : World → Prop} {n : Nat} {e : Env} {w : World} {rt : TypeId} {pos : String} {af : Array Edge} {gd : Option (Nat × Bool)} {d : Nat} {dst : Option Tmp} {K : Env → World → Prop}
/-- A new row of c elements, all their cells v. -/
theorem e_mkZ {t E : TypeId} {x y : Operand} {c sz by_ : Nat} {v z : Value} {q q' : IntKind} (hlt : Nat.blt d n = true) (ht : P.underlying t = some (.slice E)) (hi : (P.info? E).map (fun i => (i.zero, i.size, i.bytes)) = some (some z, sz, by_)) (hz : z.cells = Array.replicate sz v) (h0 : 0 < sz) (hx : ev e x = some (.int q (c : Int))) (hy : ev e y = some (.int q' (c : Int))) (hb : by_ * c ≤ 281474976710656) (h63 : c ≤ 9223372036854775807)
    (k : ∀ w' g, g = w.heap.size → Blk w' g E (List.replicate (c * sz) v).toArray → Ch No w w' → w'.heap.size = g + 1 → K ((d, .slice (some ⟨g, 0, none⟩) c c) :: e) w') : OpE P n ⟨some d, .makeSlice t x y, rt, pos, af, gd⟩ e w Q K := by
  obtain ⟨i, h1, h2, h3, h4⟩ := info_parts hi
  have hr := run_make (P := P) w t E i z ht h1 h2 q q' (c : Int) (c : Int) (by omega) (Int.le_refl _) (by rw [h4, ← Int.natCast_mul]; omega) (by omega)
  simp only [Int.toNat_natCast, h3] at hr
  rw [made_same hz h0] at hr
  refine e_of_run rfl hlt (fun a F => ?_) (k _ _ rfl (Blk.new w E _) (Ch.alloc w _) (by simp))
  simp [execOp, F.ev hx, F.ev hy, hr]
/-- A new row with room for c bytes. -/
theorem e_mk0 {t E : TypeId} {x y : Operand} {c : Nat} {v z : Value} {q q' : IntKind} (hlt : Nat.blt d n = true) (ht : P.underlying t = some (.slice E)) (hi : (P.info? E).map (fun i => (i.zero, i.size, i.bytes)) = some (some z, 1, 1)) (hx : ev e x = some (.int q 0)) (hy : ev e y = some (.int q' (c : Int))) (hb : c ≤ 281474976710656)
    (k : ∀ w' g, g = w.heap.size → Row w' (fun k => w.heap.size ≤ k) E 1 (.slice (some ⟨g, 0, none⟩) 0 c) 0 ([] : List Value) → Ch No w w' → w'.heap.size = g + 1 → K ((d, .slice (some ⟨g, 0, none⟩) 0 c) :: e) w') : OpE P n ⟨some d, .makeSlice t x y, rt, pos, af, gd⟩ e w Q K := by
  obtain ⟨i, h1, h2, h3, h4⟩ := info_parts hi
  have hr := run_make (P := P) w t E i z ht h1 h2 q q' 0 (c : Int) (Int.le_refl _) (by omega) (by rw [h4]; omega) (by omega)
  simp only [Int.toNat_natCast, h3, Int.toNat_zero] at hr
  refine e_of_run rfl hlt (w' := w.alloc (.cells (madeCells z.cells (c * 1)) E)) (fun a F => ?_) (k _ _ rfl ?_ (Ch.alloc w _) (by simp))
  · simp [execOp, F.ev hx, F.ev hy, hr]
  · have R := Row.of_blk (n := 0) (sz := 1) (F := fun k => w.heap.size ≤ k) (cap := c) (Blk.new w E (madeCells z.cells (c * 1))) (Nat.le_refl _) (Nat.zero_le _) (by unfold maxLen; omega) (size_madeCells _ _)
    simpa using R
end
theorem Sl.rng {w : World} {b o N r : Nat} {L : List UInt8} (h : w.rangeAt b o (L.map u8v)) (hN : L.length = N) (hr : r ≤ N) : Sl w (fun k => k = b) u8v (some ⟨b, o + r, none⟩) (N - r) (N - r) (L.drop r) :=
  ⟨.inr ⟨b, o + r, rfl, rfl, fun j u hj => by rw [Nat.add_assoc]; exact h (r + j) u (by rw [← hj, List.map_drop, List.getElem?_drop])⟩, by rw [List.length_drop, hN], Nat.le_refl _⟩
theorem DR.neS {T : DTy} {w : World} {F : Nat → Prop} {g n gs gm b : Nat} {Ao Ak : Option Addr} {lo co lk ck : Nat} {sf nw : List UInt8} {ord : List Nat} {keep : List Int} {ks : List Nat} {t : TypeId} {cs : Array Value} (h : DR T w F g n gs gm Ao lo co Ak lk ck sf nw ord keep ks) (hb : Blk w b t cs) (ht : t ≠ T.S) : b ≠ gs := h.hZ.elim fun _ hS => hb.ne_of hS ht
theorem DR.neM {T : DTy} {w : World} {F : Nat → Prop} {g n gs gm : Nat} {Ao Ak : Option Addr} {lo co lk ck : Nat} {sf nw : List UInt8} {ord : List Nat} {keep : List Int} {ks : List Nat} (h : DR T w F g n gs gm Ao lo co Ak lk ck sf nw ord keep ks) : gs ≠ gm := h.hZ.elim fun _ hS => by obtain ⟨l, clk, h1, _⟩ := h.ex; exact (h1.ne hS).symm
theorem DR.rng {T : DTy} {w : World} {F : Nat → Prop} {g n gs gm i : Nat} {Ao Ak : Option Addr} {lo co lk ck : Nat} {sf nw : List UInt8} {ord : List Nat} {keep : List Int} {ks : List Nat} (h : DR T w F g n gs gm Ao lo co Ak lk ck sf nw ord keep ks) (hi : 32 * i + 32 ≤ sf.length) : w.rangeAt gs (0 + i * 32) ((sec sf i).map u8v) := h.hZ.elim fun zz hS => rng_sec hS hi
/-- A disk that no call made. -/
def NoDk (D : TypeId) (w : World) (v : Value) : Prop := v = .pointer none ∨ ∃ g, v = .pointer (some ⟨g, 0, none⟩) ∧ Blk w g D #[.slice none 0 0, .map none, .slice none 0 0, .bool false, i64 0, .slice none 0 0, i64 0]
theorem NoDk.no {D : TypeId} {w w' : World} {v : Value} (h : NoDk D w v) (c : Ch No w w') : NoDk D w' v := by
  rcases h with h | ⟨g, h1, h2⟩
  · exact .inl h
  · exact .inr ⟨g, h1, h2.ch c (fun h => h)⟩
theorem NoDk.nil {D : TypeId} {w : World} : NoDk D w (.pointer none) := .inl rfl
theorem NoDk.zero {D : TypeId} {w : World} {g : Nat} (h : Blk w g D #[.slice none 0 0, .map none, .slice none 0 0, .bool false, i64 0, .slice none 0 0, i64 0]) : NoDk D w (.pointer (some ⟨g, 0, none⟩)) := .inr ⟨g, rfl, h⟩
/-- The sectors that are in the map, told otherwise. -/
theorem DR.ksEq {T : DTy} {w : World} {F : Nat → Prop} {g n gs gm : Nat} {Ao Ak : Option Addr} {lo co lk ck : Nat} {sf nw : List UInt8} {ord : List Nat} {keep : List Int} {ks ks' : List Nat} (h : DR T w F g n gs gm Ao lo co Ak lk ck sf nw ord keep ks) (he : ∀ k, k ∈ ks ↔ k ∈ ks') : DR T w F g n gs gm Ao lo co Ak lk ck sf nw ord keep ks' := by
  obtain ⟨l, clk, h1, h2, h3, h4, h5⟩ := h.ex
  exact ⟨h.hZ, ⟨l, clk, h1, h2, fun k => (h3 k).trans (he k), h4, h5⟩, h.hO, h.hK, h.dis, h.fg, h.fs, h.fm⟩
/-- A row that is not nil as a block. -/
theorem Row.blk {w : World} {F : Nat → Prop} {E : TypeId} {sz n : Nat} {v : Value} {xs : List Value} (h : Row w F E sz v n xs) (hn : 0 < n) : ∃ g c zz, v = .slice (some ⟨g, 0, none⟩) n c ∧ Blk w g E (xs ++ zz).toArray ∧ F g ∧ g < w.heap.size := by
  obtain ⟨⟨h1, h2⟩, h3⟩ := h
  rcases h2 with ⟨_, rfl⟩ | ⟨g, cap, cur, rfl, hb, hg, hnc, hm, hs, ht⟩
  · omega
  · refine ⟨g, cap, cur.toList.drop (n * sz), rfl, ?_, h3 g rfl, Blk.lt (t := E) (cs := cur) hg⟩
    have : (xs ++ cur.toList.drop (n * sz)).toArray = cur := by
      apply Array.toList_inj.1
      rw [← ht]
      exact List.take_append_drop _ _
    rw [this]; exact hg
theorem sub_len : ∀ {xs ys : List KE}, xs.Nodup → (∀ x ∈ xs, x ∈ ys) → xs.length ≤ ys.length
  | [], _, _, _ => Nat.zero_le _
  | x :: r, ys, hn, hs => by
    rw [List.nodup_cons] at hn
    have hx : x ∈ ys := hs x (by simp)
    have h1 := List.length_erase_of_mem hx
    have h2 : 0 < ys.length := List.length_pos_of_mem hx
    have h3 := sub_len (xs := r) (ys := ys.erase x) hn.2 (fun y hy => (List.mem_erase_of_ne (by intro e; subst e; exact hn.1 hy)).2 (hs y (by simp [hy])))
    rw [List.length_cons]; omega
end Go.Gx
