/-
  Own text: plain: trees of keys in order: what a key has behind a put and a drop, the order of the items, that a tree is known by its items.
-/
import Derived.Test.YtkfkdakghjlenaaDoorPlTrie
set_option linter.unusedSimpArgs false
set_option linter.unusedVariables false
namespace Go.Plain
open Go.Gx
/-! ### The order of keys -/
def ltK (a b : H8) : Prop := apartK a b < 256 ∧ bitN a (apartK a b) = 0
instance (a b : H8) : Decidable (ltK a b) := inferInstanceAs (Decidable (_ ∧ _))
section
variable {a b c : H8}
theorem apartK_comm : apartK a b = apartK b a := by
  refine apartK_is apartK_le (fun k hk => (apartK_same hk).symm) (fun h => ?_)
  exact (apartK_ne h).symm
theorem bit01 (k : H8) (i : Nat) : bitN k i = 0 ∨ bitN k i = 1 := by have := bitN_lt k i; omega
theorem ltK_bits (h : ltK a b) : bitN a (apartK a b) = 0 ∧ bitN b (apartK a b) = 1 := by
  refine ⟨h.2, ?_⟩
  have := apartK_ne h.1
  have := bit01 b (apartK a b)
  have := h.2
  omega
theorem ltK_of {i : Nat} (hi : i < 256) (h : ∀ k, k < i → bitN a k = bitN b k) (h0 : bitN a i = 0) (h1 : bitN b i = 1) : ltK a b := by
  have : apartK a b = i := apartK_is (by omega) h (fun _ => by omega)
  exact ⟨by omega, by rw [this]; exact h0⟩
theorem ltK_irrefl (a : H8) : ¬ ltK a a := fun h => by
  have := apartK_ne h.1
  exact this rfl
theorem ltK_ne (h : ltK a b) : a ≠ b := fun e => ltK_irrefl b (e ▸ h)
theorem ltK_trans (h1 : ltK a b) (h2 : ltK b c) : ltK a c := by
  obtain ⟨a0, b1⟩ := ltK_bits h1
  obtain ⟨b0, c1⟩ := ltK_bits h2
  rcases Nat.lt_trichotomy (apartK a b) (apartK b c) with h | h | h
  · exact ltK_of h1.1 (fun k hk => (apartK_same hk).trans (apartK_same (by omega))) a0 ((apartK_same h).symm.trans b1)
  · rw [h] at b1; omega
  · exact ltK_of h2.1 (fun k hk => (apartK_same (by omega)).trans (apartK_same hk)) ((apartK_same h).trans b0) c1
theorem ltK_asymm (h1 : ltK a b) : ¬ ltK b a := fun h2 => ltK_irrefl _ (ltK_trans h1 h2)
theorem ltK_tri (ha : a.length = 32) (hb : b.length = 32) : ltK a b ∨ a = b ∨ ltK b a := by
  by_cases h : apartK a b = 256
  · exact .inr (.inl ((apartK_eq ha hb).1 h))
  · have hl : apartK a b < 256 := by have := apartK_le (a := a) (b := b); omega
    have hn := apartK_ne hl
    rcases bit01 a (apartK a b) with h0 | h0
    · exact .inl ⟨hl, h0⟩
    · refine .inr (.inr ⟨by rw [apartK_comm]; exact hl, ?_⟩)
      rw [apartK_comm]
      have := bit01 b (apartK a b)
      omega
end
/-- In order. -/
def Srt (m : List (H8 × H8)) : Prop := m.Pairwise (fun x y => ltK x.1 y.1)
theorem srt_ext : ∀ {l m : List (H8 × H8)}, Srt l → Srt m → (∀ x, x ∈ l ↔ x ∈ m) → l = m
  | [], [], _, _, _ => rfl
  | [], y :: s, _, _, h => by have := (h y).2 (by simp); simp at this
  | x :: r, [], _, _, h => by have := (h x).1 (by simp); simp at this
  | x :: r, y :: s, hl, hm, h => by
    obtain ⟨hl1, hl2⟩ := List.pairwise_cons.1 hl
    obtain ⟨hm1, hm2⟩ := List.pairwise_cons.1 hm
    have e : x = y := by
      have hx := (h x).1 (by simp)
      have hy := (h y).2 (by simp)
      rcases List.mem_cons.1 hx with e | hx
      · exact e
      · rcases List.mem_cons.1 hy with e | hy
        · exact e.symm
        · exact absurd (hm1 _ hx) (ltK_asymm (hl1 _ hy))
    subst e
    rw [srt_ext hl2 hm2 (fun z => ?_)]
    constructor
    · intro hz
      rcases List.mem_cons.1 ((h z).1 (by simp [hz])) with e | h'
      · subst e; exact absurd (hl1 _ hz) (ltK_irrefl _)
      · exact h'
    · intro hz
      rcases List.mem_cons.1 ((h z).2 (by simp [hz])) with e | h'
      · subst e; exact absurd (hm1 _ hz) (ltK_irrefl _)
      · exact h'
/-! ### The reference's maps -/
def mputA (k v : H8) : List (H8 × H8) → Bool → List (H8 × H8)
  | [], d => if d then [] else [(k, v)]
  | x :: r, d => (if d = false ∧ ¬ ltK x.1 k then [(k, v)] else []) ++ ((if x.1 = k then [] else [x]) ++ mputA k v r (d || !decide (ltK x.1 k)))
def mput (m : List (H8 × H8)) (k v : H8) : List (H8 × H8) := mputA k v m false
def mdrop (m : List (H8 × H8)) (k : H8) : List (H8 × H8) := m.filter (fun x => !decide (x.1 = k))
def mget : List (H8 × H8) → H8 → Option H8
  | [], _ => none
  | x :: r, k => if x.1 = k then some x.2 else mget r k
section
variable {k v : H8}
theorem mputA_true : ∀ m : List (H8 × H8), mputA k v m true = mdrop m k
  | [] => rfl
  | x :: r => by
    rw [mputA, mdrop, List.filter_cons, if_neg (by simp), Bool.true_or, mputA_true r]
    by_cases h : x.1 = k
    · simp [h, mdrop]
    · simp [h, mdrop]
theorem mput_mem : ∀ {m : List (H8 × H8)}, ∀ x, x ∈ mput m k v ↔ x = (k, v) ∨ x ∈ m ∧ x.1 ≠ k
  | [], x => by simp [mput, mputA]
  | y :: r, x => by
    rw [mput, mputA]
    by_cases h : ltK y.1 k
    · have hne := ltK_ne h
      have ih := mput_mem (m := r) x
      rw [mput] at ih
      simp only [h, not_true, and_false, if_false, hne, decide_true, Bool.not_true, Bool.or_false, List.nil_append, List.singleton_append, List.mem_cons, ih]
      constructor
      · rintro (rfl | h | h)
        · exact .inr ⟨.inl rfl, hne⟩
        · exact .inl h
        · exact .inr ⟨.inr h.1, h.2⟩
      · rintro (h | ⟨rfl | h, h2⟩)
        · exact .inr (.inl h)
        · exact .inl rfl
        · exact .inr (.inr ⟨h, h2⟩)
    · simp only [h, not_false_iff, and_true, if_true, decide_false, Bool.not_false, Bool.or_true, mputA_true, List.mem_append, List.mem_singleton, mdrop, List.mem_filter, List.mem_cons]
      by_cases e : y.1 = k
      · simp [e]
        constructor
        · rintro (h | h)
          · exact .inl h
          · exact .inr ⟨.inr h.1, h.2⟩
        · rintro (h | ⟨rfl | h, h2⟩)
          · exact .inl h
          · exact absurd e h2
          · exact .inr ⟨h, h2⟩
      · simp [e]
        constructor
        · rintro (h | h | h)
          · exact .inl h
          · exact .inr ⟨.inl h, h ▸ e⟩
          · exact .inr ⟨.inr h.1, h.2⟩
        · rintro (h | ⟨rfl | h, h2⟩)
          · exact .inl h
          · exact .inr (.inl rfl)
          · exact .inr (.inr ⟨h, h2⟩)
theorem mdrop_mem {m : List (H8 × H8)} {x : H8 × H8} : x ∈ mdrop m k ↔ x ∈ m ∧ x.1 ≠ k := by simp [mdrop]
theorem mdrop_srt {m : List (H8 × H8)} (h : Srt m) : Srt (mdrop m k) := List.Pairwise.filter _ h
theorem mput_srt (hk : k.length = 32) : ∀ {m : List (H8 × H8)}, Srt m → (∀ x ∈ m, x.1.length = 32) → Srt (mput m k v)
  | [], _, _ => by simp [mput, mputA, Srt]
  | y :: r, h, hl => by
    obtain ⟨h1, h2⟩ := List.pairwise_cons.1 h
    have ih := mput_srt hk h2 (fun x hx => hl x (by simp [hx]))
    rw [mput, mputA]
    by_cases hy : ltK y.1 k
    · have hne := ltK_ne hy
      simp only [hy, not_true, and_false, if_false, hne, decide_true, Bool.not_true, Bool.or_false, List.nil_append, List.singleton_append]
      refine List.pairwise_cons.2 ⟨fun z hz => ?_, ih⟩
      rcases mput_mem (k := k) (v := v) (m := r) z |>.1 hz with rfl | ⟨hz, _⟩
      · exact hy
      · exact h1 z hz
    · simp only [hy, not_false_iff, and_true, if_true, decide_false, Bool.not_false, Bool.or_true, mputA_true, List.singleton_append]
      have hky : ∀ z ∈ mdrop (y :: r) k, ltK k z.1 := fun z hz => by
        obtain ⟨hz1, hz2⟩ := mdrop_mem.1 hz
        rcases ltK_tri hk (hl z hz1) with h' | h' | h'
        · exact h'
        · exact absurd h'.symm hz2
        · exfalso
          rcases List.mem_cons.1 hz1 with rfl | hzr
          · exact hy h'
          · exact hy (ltK_trans (h1 z hzr) h')
      have he : (if y.1 = k then [] else [y]) ++ mdrop r k = mdrop (y :: r) k := by
        by_cases e : y.1 = k <;> simp [mdrop, e]
      rw [he]
      exact List.pairwise_cons.2 ⟨hky, mdrop_srt h⟩
end
namespace Tr
/-! ### Trees in order -/
def WF : Tr → Prop
  | leaf k v => k.length = 32 ∧ v.length = 32
  | fork b x y => b < 256 ∧ x.WF ∧ y.WF ∧ b < x.bit ∧ b < y.bit ∧ (∀ e ∈ x.items, bitN e.1 b = 0) ∧ (∀ e ∈ y.items, bitN e.1 b = 1) ∧ ∀ e ∈ x.items ++ y.items, ∀ i, i < b → bitN e.1 i = bitN x.key i
theorem WF.ok : ∀ {t : Tr}, t.WF → t.Ok
  | leaf _ _, h => h
  | fork b x y, h => ⟨h.1, h.2.1.ok, h.2.2.1.ok⟩
theorem key_mem : ∀ t : Tr, ∃ v, (t.key, v) ∈ t.items
  | leaf k v => ⟨v, by simp [key, items]⟩
  | fork b x y => by obtain ⟨v, h⟩ := key_mem x; exact ⟨v, by simp [key, items, h]⟩
theorem items_cnt : ∀ t : Tr, t.items.length = t.cnt
  | leaf _ _ => rfl
  | fork b x y => by simp only [items, List.length_append, cnt, items_cnt x, items_cnt y]
theorem items_len : ∀ {t : Tr}, t.Ok → ∀ e ∈ t.items, e.1.length = 32 ∧ e.2.length = 32
  | leaf k v, h, e, he => by simp [items] at he; subst he; exact h
  | fork b x y, h, e, he => by
    simp only [items, List.mem_append] at he
    rcases he with he | he
    · exact items_len h.2.1 e he
    · exact items_len h.2.2 e he
/-- Ahead of a tree's bit all its keys are alike. -/
theorem WF.alike : ∀ {t : Tr}, t.WF → ∀ e ∈ t.items, ∀ i, i < t.bit → bitN e.1 i = bitN t.key i
  | leaf k v, _, e, he, i, _ => by simp [items] at he; subst he; rfl
  | fork b x y, h, e, he, i, hi => h.2.2.2.2.2.2.2 e (by simpa [items] using he) i hi
theorem WF.srt : ∀ {t : Tr}, t.WF → Srt t.items
  | leaf k v, _ => by simp [items, Srt]
  | fork b x y, h => by
    refine List.pairwise_append.2 ⟨h.2.1.srt, h.2.2.1.srt, fun a ha c hc => ?_⟩
    have hal := h.2.2.2.2.2.2.2
    exact ltK_of h.1 (fun k hk => (hal a (by simp [ha]) k hk).trans (hal c (by simp [hc]) k hk).symm) (h.2.2.2.2.2.1 a ha) (h.2.2.2.2.2.2.1 c hc)
/-- A fork's bit is where its first and last key differ; as many have 0 there as stand on the first side. -/
theorem WF.apart {b : Nat} {x y : Tr} (h : (fork b x y).WF) {a c : H8 × H8} (ha : a ∈ x.items) (hc : c ∈ y.items) : apartK a.1 c.1 = b := by
  have hal := h.2.2.2.2.2.2.2
  refine apartK_is (Nat.le_of_lt h.1) (fun k hk => (hal a (by simp [ha]) k hk).trans (hal c (by simp [hc]) k hk).symm) (fun _ => ?_)
  rw [h.2.2.2.2.2.1 a ha, h.2.2.2.2.2.2.1 c hc]; decide
theorem join_items_mem {b s : Nat} {a x : Tr} {e : H8 × H8} : e ∈ (join b s a x).items ↔ e ∈ a.items ∨ e ∈ x.items := by
  unfold join; split
  · simp [items]
  · simp [items]; exact Or.comm
theorem put_mem : ∀ {t : Tr} {k v : H8}, t.WF → k.length = 32 → ∀ e, e ∈ (t.put k v).items ↔ e = (k, v) ∨ e ∈ t.items ∧ e.1 ≠ k
  | leaf k0 v0, k, v, h, hk, e => by
    rw [put]
    split
    · have hap : apartK k0 k = 256 := by have := apartK_le (a := k0) (b := k); omega
      have he := (apartK_eq h.1 hk).1 hap
      subst he
      simp only [items, List.mem_singleton]
      constructor
      · exact fun h => .inl h
      · rintro (h | ⟨rfl, h2⟩)
        · exact h
        · exact absurd rfl h2
    · rename_i hlt
      have hne : k0 ≠ k := fun e => by have := (apartK_eq h.1 hk).2 e; omega
      rw [join_items_mem]
      simp only [items, List.mem_singleton]
      constructor
      · rintro (h | rfl)
        · exact .inl h
        · exact .inr ⟨rfl, hne⟩
      · rintro (h | ⟨h, _⟩)
        · exact .inl h
        · exact .inr h
  | fork b x y, k, v, h, hk, e => by
    rw [put]
    split
    · rename_i hb
      have hkb : ∀ c ∈ x.items ++ y.items, ∀ i, i < b → bitN c.1 i = bitN k i := fun c hc i hi => (h.2.2.2.2.2.2.2 c hc i hi).trans (apartK_same (by omega))
      split
      · rename_i h0
        have hyk : ∀ c ∈ y.items, c.1 ≠ k := fun c hc e => by have := h.2.2.2.2.2.2.1 c hc; rw [e] at this; omega
        have ih := put_mem (t := x) (v := v) h.2.1 hk e
        simp only [items, List.mem_append, ih]
        constructor
        · rintro ((h | h) | h)
          · exact .inl h
          · exact .inr ⟨.inl h.1, h.2⟩
          · exact .inr ⟨.inr h, hyk e h⟩
        · rintro (h | ⟨h | h, h2⟩)
          · exact .inl (.inl h)
          · exact .inl (.inr ⟨h, h2⟩)
          · exact .inr h
      · rename_i h0
        have hxk : ∀ c ∈ x.items, c.1 ≠ k := fun c hc e => by have := h.2.2.2.2.2.1 c hc; rw [e] at this; omega
        have ih := put_mem (t := y) (v := v) h.2.2.1 hk e
        simp only [items, List.mem_append, ih]
        constructor
        · rintro (h | h | h)
          · exact .inr ⟨.inl h, hxk e h⟩
          · exact .inl h
          · exact .inr ⟨.inr h.1, h.2⟩
        · rintro (h | ⟨h | h, h2⟩)
          · exact .inr (.inl h)
          · exact .inl h
          · exact .inr (.inr ⟨h, h2⟩)
    · rename_i hb
      have hlt : apartK x.key k < b := by omega
      have hne : ∀ c ∈ (fork b x y).items, c.1 ≠ k := fun c hc e => by
        have h1 := WF.alike h c hc _ hlt
        rw [e] at h1
        exact apartK_ne (a := x.key) (b := k) (by have := h.1; omega) h1.symm
      rw [join_items_mem]
      constructor
      · rintro (he | he)
        · left; simpa [items] using he
        · exact .inr ⟨he, hne e he⟩
      · rintro (he | ⟨he, _⟩)
        · left; simp [items, he]
        · exact .inr he
theorem put_bit {t : Tr} {k v : H8} {b : Nat} (hok : t.Ok) (h : b < t.bit) (hk : ∀ i, i ≤ b → bitN t.key i = bitN k i) : b < (t.put k v).bit := by
  have hge : b < apartK t.key k := by
    rcases Nat.lt_or_ge b (apartK t.key k) with h' | h'
    · exact h'
    · rcases Nat.lt_or_ge (apartK t.key k) 256 with h2 | h2
      · exact absurd (hk _ h') (apartK_ne h2)
      · have := bit_le hok; omega
  cases t with
  | leaf k0 v0 =>
    simp only [key] at hge
    rw [put]; split
    · exact h
    · unfold join; split <;> exact hge
  | fork b0 x y =>
    simp only [key] at hge
    simp only [bit] at h
    rw [put]; split
    · split <;> exact h
    · unfold join; split <;> exact hge
theorem join_wf {at_ : Nat} {k v : H8} {t : Tr} (h : t.WF) (hk : k.length = 32) (hv : v.length = 32) (e : apartK t.key k = at_) (hb : at_ < t.bit) (h256 : at_ < 256) : (join at_ (bitN k at_) (leaf k v) t).WF := by
  have hne : bitN t.key at_ ≠ bitN k at_ := by rw [← e] at h256 ⊢; exact apartK_ne h256
  have hsame : ∀ i, i < at_ → bitN t.key i = bitN k i := fun i hi => apartK_same (by omega)
  have hal := WF.alike h
  unfold join
  split
  · rename_i h0
    refine ⟨h256, ⟨hk, hv⟩, h, h256, hb, fun c hc => ?_, fun c hc => ?_, fun c hc i hi => ?_⟩
    · simp [items] at hc; rw [hc]; exact h0
    · rw [hal c hc _ hb]; have := bit01 t.key at_; omega
    · simp only [key]
      rcases List.mem_append.1 hc with hc | hc
      · simp [items] at hc; rw [hc]
      · rw [hal c hc i (by omega)]; exact hsame i hi
  · rename_i h0
    refine ⟨h256, h, ⟨hk, hv⟩, hb, h256, fun c hc => ?_, fun c hc => ?_, fun c hc i hi => ?_⟩
    · rw [hal c hc _ hb]; have := bit01 t.key at_; have := bit01 k at_; omega
    · simp [items] at hc; rw [hc]; show bitN k at_ = 1; have := bit01 k at_; omega
    · rcases List.mem_append.1 hc with hc | hc
      · exact hal c hc i (by omega)
      · simp [items] at hc; rw [hc]; exact (hsame i hi).symm
theorem put_wf : ∀ {t : Tr} {k v : H8}, t.WF → k.length = 32 → v.length = 32 → (t.put k v).WF
  | leaf k0 v0, k, v, h, hk, hv => by
    rw [put]; split
    · exact ⟨hk, hv⟩
    · exact join_wf (t := leaf k0 v0) h hk hv rfl (by show _ < 256; omega) (by omega)
  | fork b x y, k, v, h, hk, hv => by
    obtain ⟨hb, hx, hy, hbx, hby, h0, h1, hal⟩ := id h
    rw [put]; split
    · rename_i hge
      have hkb : ∀ c ∈ x.items ++ y.items, ∀ i, i < b → bitN c.1 i = bitN k i := fun c hc i hi => (hal c hc i hi).trans (apartK_same (by omega))
      have hkk : ∀ i, i < b → bitN x.key i = bitN k i := fun i hi => apartK_same (by omega)
      split
      · rename_i hk0
        have hkx : ∀ c ∈ (x.put k v).items, c = (k, v) ∨ c ∈ x.items := fun c hc => by
          rcases (put_mem hx hk c).1 hc with h | h
          · exact .inl h
          · exact .inr h.1
        obtain ⟨vk, hvk⟩ := key_mem x
        refine ⟨hb, put_wf hx hk hv, hy, put_bit hx.ok hbx (fun i hi => ?_), hby, fun c hc => ?_, h1, fun c hc i hi => ?_⟩
        · rcases Nat.lt_or_ge i b with h' | h'
          · exact hkk i h'
          · obtain rfl : i = b := by omega
            rw [h0 _ hvk, hk0]
        · rcases hkx c hc with rfl | hc
          · exact hk0
          · exact h0 c hc
        · obtain ⟨u, hu⟩ := key_mem (x.put k v)
          have e1 : bitN (x.put k v).key i = bitN k i := by
            rcases hkx _ hu with e | hc'
            · injection e with e; rw [e]
            · exact hkb ((x.put k v).key, u) (List.mem_append.2 (.inl hc')) i hi
          rw [e1]
          rcases List.mem_append.1 hc with hc | hc
          · rcases hkx c hc with rfl | hc
            · rfl
            · exact hkb c (by simp [hc]) i hi
          · exact hkb c (by simp [hc]) i hi
      · rename_i hk0
        have hk1 : bitN k b = 1 := by have := bit01 k b; omega
        have hky : ∀ c ∈ (y.put k v).items, c = (k, v) ∨ c ∈ y.items := fun c hc => by
          rcases (put_mem hy hk c).1 hc with h | h
          · exact .inl h
          · exact .inr h.1
        obtain ⟨vk, hvk⟩ := key_mem y
        refine ⟨hb, hx, put_wf hy hk hv, hbx, put_bit hy.ok hby (fun i hi => ?_), h0, fun c hc => ?_, fun c hc i hi => ?_⟩
        · rcases Nat.lt_or_ge i b with h' | h'
          · exact hkb (y.key, vk) (List.mem_append.2 (.inr hvk)) i h'
          · obtain rfl : i = b := by omega
            rw [h1 _ hvk, hk1]
        · rcases hky c hc with rfl | hc
          · exact hk1
          · exact h1 c hc
        · rcases List.mem_append.1 hc with hc | hc
          · exact hal c (by simp [hc]) i hi
          · rcases hky c hc with rfl | hc
            · exact (hkk i hi).symm
            · exact hal c (by simp [hc]) i hi
    · rename_i hge
      exact join_wf (t := fork b x y) h hk hv rfl (by show apartK x.key k < b; omega) (show apartK x.key k < 256 by omega)
/-! ### What a key has -/
end Tr
/-! ### Trees, or none -/
def itemsT : Option Tr → List (H8 × H8)
  | none => []
  | some t => t.items
def WFO (o : Option Tr) : Prop := ∀ t, o = some t → t.WF
def putT : Option Tr → H8 → H8 → Option Tr
  | none, k, v => some (.leaf k v)
  | some t, k, v => some (t.put k v)
def getT : Option Tr → H8 → Option H8
  | none, _ => none
  | some t, k => if (t.find k).1 = k then some (t.find k).2 else none
def dropT : Option Tr → H8 → Option Tr
  | none, _ => none
  | some t, k => if (t.find k).1 = k then t.drop k else some t
def rootT : Option Tr → H8
  | none => noneH
  | some t => t.root
def cntT : Option Tr → Nat
  | none => 0
  | some t => t.cnt
section
variable {o s : Option Tr} {k v : H8}
theorem WFO.srt (h : WFO o) : Srt (itemsT o) := by
  cases o with
  | none => exact List.Pairwise.nil
  | some t => exact (h t rfl).srt
theorem WFO.len (h : WFO o) : ∀ e ∈ itemsT o, e.1.length = 32 ∧ e.2.length = 32 := by
  cases o with
  | none => intro e he; simp [itemsT] at he
  | some t => exact Tr.items_len (h t rfl).ok
theorem itemsT_cnt : (itemsT o).length = cntT o := by
  cases o with
  | none => rfl
  | some t => exact Tr.items_cnt t
theorem putT_wf (h : WFO o) (hk : k.length = 32) (hv : v.length = 32) : WFO (putT o k v) := by
  intro t e
  cases o with
  | none => simp [putT] at e; subst e; exact ⟨hk, hv⟩
  | some x => simp [putT] at e; subst e; exact Tr.put_wf (h x rfl) hk hv
theorem putT_mem (h : WFO o) (hk : k.length = 32) (e : H8 × H8) : e ∈ itemsT (putT o k v) ↔ e = (k, v) ∨ e ∈ itemsT o ∧ e.1 ≠ k := by
  cases o with
  | none => simp [itemsT, putT, Tr.items]
  | some x => exact Tr.put_mem (h x rfl) hk e
theorem putT_items (h : WFO o) (hk : k.length = 32) (hv : v.length = 32) : itemsT (putT o k v) = mput (itemsT o) k v :=
  srt_ext (putT_wf h hk hv).srt (mput_srt hk h.srt (fun x hx => (h.len x hx).1)) (fun x => by rw [putT_mem h hk, mput_mem])
end
/-! ### Where a map is cut -/
def cutI (m : List (H8 × H8)) : Nat := apartK (m.getD 0 (zeroH, zeroH)).1 (m.getD (m.length - 1) (zeroH, zeroH)).1
def cutN (m : List (H8 × H8)) (i : Nat) : Nat := (m.filter (fun x => decide (bitN x.1 i = 0))).length
theorem cut_fork {b : Nat} {x y : Tr} (h : (Tr.fork b x y).WF) : cutI (Tr.fork b x y).items = b ∧ cutN (Tr.fork b x y).items b = x.cnt ∧ (Tr.fork b x y).items.length = x.cnt + y.cnt := by
  have hx := Tr.items_cnt x
  have hy := Tr.items_cnt y
  have px := Tr.cnt_pos x
  have py := Tr.cnt_pos y
  have hl : (Tr.fork b x y).items.length = x.cnt + y.cnt := by simp [Tr.items, hx, hy]
  refine ⟨?_, ?_, hl⟩
  · unfold cutI
    rw [hl]
    have e1 : (Tr.fork b x y).items.getD 0 (zeroH, zeroH) ∈ x.items := by
      simp only [Tr.items, List.getD]
      rw [List.getElem?_append_left (by omega), List.getElem?_eq_getElem (by omega)]
      exact List.getElem_mem _
    have e2 : (Tr.fork b x y).items.getD (x.cnt + y.cnt - 1) (zeroH, zeroH) ∈ y.items := by
      simp only [Tr.items, List.getD]
      rw [List.getElem?_append_right (by omega), List.getElem?_eq_getElem (by omega)]
      exact List.getElem_mem _
    exact h.apart e1 e2
  · unfold cutN
    simp only [Tr.items, List.filter_append, List.length_append]
    have n1 : x.items.filter (fun c => decide (bitN c.1 b = 0)) = x.items := List.filter_eq_self.2 (fun c hc => by simpa using h.2.2.2.2.2.1 c hc)
    have n2 : y.items.filter (fun c => decide (bitN c.1 b = 0)) = [] := List.filter_eq_nil_iff.2 (fun c hc => by rw [h.2.2.2.2.2.2.1 c hc]; simp)
    rw [n1, n2, hx]; rfl
theorem fork_take {b : Nat} {x y : Tr} : (Tr.fork b x y).items.take x.cnt = x.items := by
  simp only [Tr.items]; rw [← Tr.items_cnt x, List.take_left]
theorem fork_drop {b : Nat} {x y : Tr} : (Tr.fork b x y).items.drop x.cnt = y.items := by
  simp only [Tr.items]; rw [← Tr.items_cnt x, List.drop_left]
theorem rootT_len {o : Option Tr} : (rootT o).length = 32 := by
  cases o with
  | none => exact noneH_len
  | some t => exact Tr.root_len
end Go.Plain
