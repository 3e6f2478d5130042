/-
  Own text, printed by a program of mine (wip/gx): what functions of the program do, walked operation by operation.
-/
import Derived.Test.YtkfkdakghjlenaaDoorProg
import Derived.Test.YtkfkdakghjlenaaDoorGxAgg
import Derived.Test.YtkfkdakghjlenaaDoorTab
import Derived.Test.YtkfkdakghjlenaaDoorGxZer
import Derived.Test.YtkfkdakghjlenaaDoorGxLay
import Derived.Test.YtkfkdakghjlenaaDoorPlPack
import Derived.Test.YtkfkdakghjlenaaDoorPlSum
import Derived.Test.YtkfkdakghjlenaaDoorPlSha
import Derived.Test.YtkfkdakghjlenaaDoorPlTag
import Derived.Test.YtkfkdakghjlenaaDoorPlBits
import Derived.Test.YtkfkdakghjlenaaDoorPlShaSt
import Derived.Test.YtkfkdakghjlenaaDoorPlShaB
import Derived.Test.YtkfkdakghjlenaaDoorPlTrie
import Derived.Test.YtkfkdakghjlenaaDoorPlTrieSt
import Derived.Test.YtkfkdakghjlenaaDoorGxRec
import Derived.Test.YtkfkdakghjlenaaDoorGxYld
import Derived.Test.YtkfkdakghjlenaaDoorPlTrieFil
import Derived.Test.YtkfkdakghjlenaaDoorOnceC
import Derived.Test.YtkfkdakghjlenaaDoorPlTrieW
import Derived.Test.YtkfkdakghjlenaaDoorPlMulti
import Derived.Test.YtkfkdakghjlenaaDoorPlEncs
import Derived.Test.YtkfkdakghjlenaaDoorGxMark
import Derived.Test.YtkfkdakghjlenaaDoorPlTrieLaw
import Derived.Test.YtkfkdakghjlenaaDoorPlTrieAct
import Derived.Test.YtkfkdakghjlenaaDoorGxFun
import Derived.Test.YtkfkdakghjlenaaDoorZl0
import Derived.Test.YtkfkdakghjlenaaDoorZl1
set_option linter.unusedVariables false
set_option linter.unusedSimpArgs false
namespace Go.Proofs.YtkfkdakghjlenaaDoor
open Go.RowKit Go.Gx
open Go.Plain
set_option maxHeartbeats 1000000 in
set_option maxRecDepth 20000 in
theorem tlen_none {w : World} {g : Nat} (hbg : Blk w g 41 [.pointer none, .bool true].toArray) :
    Calls Tryd.prog 43 #[ndp g] w fun e w' => e = .returned (i64 0) ∧ Ch No w w' := by
  have hltg := hbg.lt
  have HC : Ch No w w := Ch.refl _ _
  refine enter' (args := [ndp g]) (n := 20) Tryd.func43 rfl rfl rfl ?_
  refine wc_seq ?_
  refine wc_region ?_
  refine wl rfl rfl rfl (p_as rfl) ?_
  refine wl_nil ?_
  refine x_seq ?_
  refine wc_seq ?_
  refine wc_seq ?_
  refine wc_region ?_
  refine wl rfl rfl rfl (p_mv rfl) ?_
  refine wle rfl (e_call ent81 rfl rfl (is_made (o := none) hbg) ?_)
  rintro _ w1 ⟨rfl, hc⟩
  refine ⟨_, rfl, ?_⟩
  have hzw1 := hc.size
  have HC := HC.tr hc
  have hbg := hbg.ch hc (fun h => h)
  refine wl rfl rfl rfl (p_not rfl) ?_
  refine wl rfl rfl rfl (p_mv rfl) ?_
  refine wl_g (gd_ rfl rfl rfl rfl rfl rfl) rfl rfl (p_mv rfl) ?_
  refine wl_g (gd_ rfl rfl rfl rfl rfl rfl) rfl rfl (p_nck rfl) ?_
  refine wl_g (gd_ rfl rfl rfl rfl rfl rfl) rfl rfl (p_fld (j := 0) Tryd.underlying41 rfl ⟨_, by rfl⟩ rfl rfl) ?_
  refine wl_g (gd_ rfl rfl rfl rfl rfl rfl) rfl rfl (p_ld Tryd.underlying39 rfl rfl (ld (cell_at (p := []) (v := (.pointer none : Value)) (r := ([.bool true] : List Value)) hbg (by simp only [List.append_assoc, List.cons_append, List.nil_append, List.append_nil]) (by first | rfl | (simp only [List.length_append, List.length_map, List.length_cons, List.length_nil]; done) | (simp only [List.length_append, List.length_map, List.length_cons, List.length_nil, List.size_toArray]; done))))) ?_
  refine wl_g (gd_ rfl rfl rfl rfl rfl rfl) rfl rfl (p_eqPN rfl rfl Tryd.underlying39) ?_
  refine wl rfl rfl rfl (p_pickF rfl rfl) ?_
  refine wl_nil ?_
  refine x_seq ?_
  refine wc_yes rfl (rfl) ?_
  refine wc_seq ?_
  refine wc_region ?_
  refine wl rfl rfl rfl (p_as rfl) ?_
  refine wl_nil ?_
  refine x_seq ?_
  refine wc_ret ?_
  refine x_then_ret ?_
  refine fin_run ((res1 rfl rfl)) ?_
  exact ⟨rfl, HC⟩

set_option maxHeartbeats 1000000 in
set_option maxRecDepth 20000 in
theorem tlen_some {w : World} {g : Nat} {t : LT} (hbg : Blk w g 41 [ndp t.adr, .bool true].toArray) (hX : LAt 156 w t) :
    Calls Tryd.prog 43 #[ndp g] w fun e w' => e = .returned (i64 (t.er.cnt : Int)) ∧ Ch No w w' := by
  have hltg := hbg.lt
  obtain ⟨gn, p, q, v0, d0, h0, egn, hvn, hhn, hkn, hbl, hcl, hbn⟩ := hX.top
  rw [← egn] at hbg
  have hbn : Blk w gn 156 (([i64 (t.er.bit : Int), p, q] ++ ((List.map u8v t.er.key) ++ ((List.map u8v v0) ++ ([i64 (t.er.cnt : Int), .int .u32 (d0 : Int), .int .i32 ((0 : Nat) : Int), .int .u32 0] ++ (List.map u8v h0))))) : List Value).toArray := hbn
  have hltgn := hbn.lt
  have hbg : Blk w g 41 ([ndp gn, .bool true] : List Value).toArray := hbg
  have HC : Ch No w w := Ch.refl _ _
  refine enter' (args := [ndp g]) (n := 20) Tryd.func43 rfl rfl rfl ?_
  refine wc_seq ?_
  refine wc_region ?_
  refine wl rfl rfl rfl (p_as rfl) ?_
  refine wl_nil ?_
  refine x_seq ?_
  refine wc_seq ?_
  refine wc_seq ?_
  refine wc_region ?_
  refine wl rfl rfl rfl (p_mv rfl) ?_
  refine wle rfl (e_call ent81 rfl rfl (is_madeP hbg) ?_)
  rintro _ w1 ⟨rfl, hc⟩
  refine ⟨_, rfl, ?_⟩
  have hzw1 := hc.size
  have HC := HC.tr hc
  have hbg := hbg.ch hc (fun h => h)
  have hbn := hbn.ch hc (fun h => h)
  refine wl rfl rfl rfl (p_not rfl) ?_
  refine wl rfl rfl rfl (p_mv rfl) ?_
  refine wl_g (gd_ rfl rfl rfl rfl rfl rfl) rfl rfl (p_mv rfl) ?_
  refine wl_g (gd_ rfl rfl rfl rfl rfl rfl) rfl rfl (p_nck rfl) ?_
  refine wl_g (gd_ rfl rfl rfl rfl rfl rfl) rfl rfl (p_fld (j := 0) Tryd.underlying41 rfl ⟨_, by rfl⟩ rfl rfl) ?_
  refine wl_g (gd_ rfl rfl rfl rfl rfl rfl) rfl rfl (p_ld Tryd.underlying39 rfl rfl (ld (cell_at (p := []) (v := (ndp gn : Value)) (r := ([.bool true] : List Value)) hbg (by simp only [List.append_assoc, List.cons_append, List.nil_append, List.append_nil]) (by first | rfl | (simp only [List.length_append, List.length_map, List.length_cons, List.length_nil]; done) | (simp only [List.length_append, List.length_map, List.length_cons, List.length_nil, List.size_toArray]; done))))) ?_
  refine wl_g (gd_ rfl rfl rfl rfl rfl rfl) rfl rfl (p_eqPN rfl rfl Tryd.underlying39) ?_
  refine wl rfl rfl rfl (p_pickF rfl rfl) ?_
  refine wl_nil ?_
  refine x_seq ?_
  refine wc_no rfl (rfl) ?_
  refine wc_skip ?_
  refine x_seq ?_
  refine wc_seq ?_
  refine wc_region ?_
  refine wl rfl rfl rfl (p_mv rfl) ?_
  refine wl rfl rfl rfl (p_nck rfl) ?_
  refine wl rfl rfl rfl (p_fld (j := 0) Tryd.underlying41 rfl ⟨_, by rfl⟩ rfl rfl) ?_
  refine wl rfl rfl rfl (p_ld Tryd.underlying39 rfl rfl (ld (cell_at (p := []) (v := (ndp gn : Value)) (r := ([.bool true] : List Value)) hbg (by simp only [List.append_assoc, List.cons_append, List.nil_append, List.append_nil]) (by first | rfl | (simp only [List.length_append, List.length_map, List.length_cons, List.length_nil]; done) | (simp only [List.length_append, List.length_map, List.length_cons, List.length_nil, List.size_toArray]; done))))) ?_
  refine wl rfl rfl rfl (p_nck rfl) ?_
  refine wl rfl rfl rfl (p_fld (j := 67) Tryd.underlying156 rfl ⟨_, by rfl⟩ rfl rfl) ?_
  refine wl rfl rfl rfl (p_ld Tryd.underlying3 rfl rfl (ld (cell_at (p := (([i64 (t.er.bit : Int), p, q] ++ ((List.map u8v t.er.key) ++ (List.map u8v v0))) : List Value)) (v := (i64 (t.er.cnt : Int) : Value)) (r := (([.int .u32 (d0 : Int), .int .i32 ((0 : Nat) : Int), .int .u32 0] ++ (List.map u8v h0)) : List Value)) hbn (by simp only [List.append_assoc, List.cons_append, List.nil_append, List.append_nil]) (by first | rfl | (simp only [List.length_append, List.length_map, List.length_cons, List.length_nil, (show List.length t.er.key = 32 from hkn), (show List.length v0 = 32 from hvn)]; done) | (simp only [List.length_append, List.length_map, List.length_cons, List.length_nil, List.size_toArray, (show List.length t.er.key = 32 from hkn), (show List.length v0 = 32 from hvn)]; done))))) ?_
  refine wl rfl rfl rfl (p_as rfl) ?_
  refine wl_nil ?_
  refine x_seq ?_
  refine wc_ret ?_
  refine fin_run ((res1 rfl rfl)) ?_
  exact ⟨rfl, HC⟩

theorem tlen_made {w : World} {v : Value} {o : Option LT} {F : Nat → Prop} (hV : TR 41 156 F w v o) : Calls Tryd.prog 43 #[v] w fun e w' => e = .returned (i64 (cntT (eo o) : Int)) ∧ Ch No w w' := by
  obtain ⟨g, rfl, hFg, hbg, hT⟩ := hV.opn
  cases o with
  | none => exact tlen_none hbg
  | some t => exact tlen_some hbg (hT t rfl).1

def EachOK (t : LT) : Prop := ∀ {w : World} {m yl : Nat} {D : List (H8 × H8) → H8 × H8 → Prop} {J Jx : List (H8 × H8) → World → Prop} {pre : List (H8 × H8)}, (∀ xs A, J xs A → LAt 156 A t) → (∀ xs A B, J xs A → Ch No A B → J xs B) → (∀ xs A B, Jx xs A → Ch No A B → Jx xs B) → (∀ p x q, t.er.items = p ++ x :: q → D (pre ++ p) x) →
    (∀ pre x Wq, D pre x → J pre Wq → YieldAt Fence.wide m Tryd.prog yl ((fun x : List UInt8 × List UInt8 => #[hv x.1, hv x.2]) x) Wq fun ed W' => (ed = .returned (.bool true) ∧ J (pre ++ [x]) W') ∨ (ed = .returned (.bool false) ∧ Jx (pre ++ [x]) W')) → J pre w → Calls Tryd.prog 98 #[ndp t.adr, .func (.yield yl) #[] #[]] w fun e w' => (e = .returned (.bool true) ∧ J (pre ++ t.er.items) w') ∨ (e = .returned (.bool false) ∧ ∃ q, Jx q w')

set_option maxHeartbeats 1000000 in
set_option maxRecDepth 20000 in
theorem each_leaf {w : World} {m yl : Nat} {D : List (H8 × H8) → H8 × H8 → Prop} {J Jx : List (H8 × H8) → World → Prop} {pre : List (H8 × H8)} {g0 : Nat} {k0 v0 : List UInt8} (hX : ∀ xs A, J xs A → LAt 156 A (.leaf g0 k0 v0)) (hJ : ∀ xs A B, J xs A → Ch No A B → J xs B) (hJx : ∀ xs A B, Jx xs A → Ch No A B → Jx xs B) (hD : ∀ p x q, (Tr.leaf k0 v0).items = p ++ x :: q → D (pre ++ p) x) (hY : ∀ pre x Wq, D pre x → J pre Wq → YieldAt Fence.wide m Tryd.prog yl ((fun x : List UInt8 × List UInt8 => #[hv x.1, hv x.2]) x) Wq fun ed W' => (ed = .returned (.bool true) ∧ J (pre ++ [x]) W') ∨ (ed = .returned (.bool false) ∧ Jx (pre ++ [x]) W')) (hJ0 : J pre w) :
    Calls Tryd.prog 98 #[ndp g0, .func (.yield yl) #[] #[]] w fun e w' => (e = .returned (.bool true) ∧ J (pre ++ (Tr.leaf k0 v0).items) w') ∨ (e = .returned (.bool false) ∧ ∃ q, Jx q w') := by
  have hJp := hJ0
  obtain ⟨hk0, hv0, d0, h0, ⟨hh0, hO0⟩, hb0⟩ := id (hX _ _ hJp)
  have hb0 : Blk w g0 156 (([i64 ((256 : Nat) : Int), .pointer none, .pointer none] ++ ((List.map u8v k0) ++ ((List.map u8v v0) ++ ([i64 ((1 : Nat) : Int), .int .u32 (d0 : Int), .int .i32 ((0 : Nat) : Int), .int .u32 0] ++ (List.map u8v h0))))) : List Value).toArray := hb0
  have HC : Ch No w w := Ch.refl _ _
  refine enter' (args := [ndp g0, .func (.yield yl) #[] #[]]) (n := 38) Tryd.func98 rfl rfl rfl ?_
  refine wc_seq ?_
  refine wc_region ?_
  refine wl rfl rfl rfl (p_as rfl) ?_
  refine wl_nil ?_
  refine x_seq ?_
  refine wc_seq ?_
  refine wc_seq ?_
  refine wc_region ?_
  refine wl rfl rfl rfl (p_mv rfl) ?_
  refine wl rfl rfl rfl (p_eqPN rfl rfl Tryd.underlying39) ?_
  refine wl_nil ?_
  refine x_seq ?_
  refine wc_no rfl (rfl) ?_
  refine wc_skip ?_
  refine x_seq ?_
  refine wc_seq ?_
  refine wc_seq ?_
  refine wc_region ?_
  refine wl rfl rfl rfl (p_mv rfl) ?_
  refine wl rfl rfl rfl (p_nck rfl) ?_
  refine wl rfl rfl rfl (p_fld (j := 0) Tryd.underlying156 rfl ⟨_, by rfl⟩ rfl rfl) ?_
  refine wl rfl rfl rfl (p_ld Tryd.underlying3 rfl rfl (ld (cell_at (p := []) (v := (i64 ((256 : Nat) : Int) : Value)) (r := (([.pointer none, .pointer none] ++ ((List.map u8v k0) ++ ((List.map u8v v0) ++ ([i64 ((1 : Nat) : Int), .int .u32 (d0 : Int), .int .i32 ((0 : Nat) : Int), .int .u32 0] ++ (List.map u8v h0))))) : List Value)) hb0 (by simp only [List.append_assoc, List.cons_append, List.nil_append, List.append_nil]) (by first | rfl | (simp only [List.length_append, List.length_map, List.length_cons, List.length_nil]; done) | (simp only [List.length_append, List.length_map, List.length_cons, List.length_nil, List.size_toArray]; done))))) ?_
  refine wl rfl rfl rfl (p_eq rfl rfl) ?_
  refine wl_nil ?_
  refine x_seq ?_
  refine wc_yes rfl (rfl) ?_
  refine wc_seq ?_
  have hbd := hb0.ch (Ch.drew w) (fun h => h)
  refine wc_pureY (m := m + 1) 9 [12, 13, 14, 15, 16, 17, 18, 19, 20] (fun i => [[], [], [1], [2], [3], [], [5], [6], [7]].getD i []) (fun i => [.func (.yield yl) #[] #[], ndp g0, ndp g0, .pointer (some ⟨g0, 0 + 3, none⟩), hv k0, ndp g0, ndp g0, .pointer (some ⟨g0, 0 + 35, none⟩), hv v0].getD i undef) [(12, .func (.yield yl) #[] #[]), (16, hv k0), (20, hv v0)] (by kernel_rfl) rfl rfl rfl rfl rfl rfl rfl rfl (by kernel_rfl) ⟨p_mv rfl, p_mv rfl, p_nck rfl, p_fld (j := 3) Tryd.underlying156 rfl ⟨_, by rfl⟩ rfl rfl, p_ldA (cs := List.map u8v k0) Tryd.underlying38 rfl (szL sz38 (by first | rfl | (simp only [List.length_append, List.length_map, List.length_cons, List.length_nil, (show List.length k0 = 32 from hk0)]; done) | (simp only [List.length_append, List.length_map, List.length_cons, List.length_nil, List.size_toArray, (show List.length k0 = 32 from hk0)]; done))) rfl (fun _ e => e ▸ rng_at (p := ([i64 ((256 : Nat) : Int), .pointer none, .pointer none] : List Value)) (q := List.map u8v k0) (r := (((List.map u8v v0) ++ ([i64 ((1 : Nat) : Int), .int .u32 (d0 : Int), .int .i32 ((0 : Nat) : Int), .int .u32 0] ++ (List.map u8v h0))) : List Value)) hbd (by simp only [List.append_assoc, List.cons_append, List.nil_append, List.append_nil]) (by first | rfl | (simp only [List.length_append, List.length_map, List.length_cons, List.length_nil]; done) | (simp only [List.length_append, List.length_map, List.length_cons, List.length_nil, List.size_toArray]; done))), p_mv rfl, p_nck rfl, p_fld (j := 35) Tryd.underlying156 rfl ⟨_, by rfl⟩ rfl rfl, p_ldA (cs := List.map u8v v0) Tryd.underlying38 rfl (szL sz38 (by first | rfl | (simp only [List.length_append, List.length_map, List.length_cons, List.length_nil, (show List.length v0 = 32 from hv0)]; done) | (simp only [List.length_append, List.length_map, List.length_cons, List.length_nil, List.size_toArray, (show List.length v0 = 32 from hv0)]; done))) rfl (fun _ e => e ▸ rng_at (p := (([i64 ((256 : Nat) : Int), .pointer none, .pointer none] ++ (List.map u8v k0)) : List Value)) (q := List.map u8v v0) (r := (([i64 ((1 : Nat) : Int), .int .u32 (d0 : Int), .int .i32 ((0 : Nat) : Int), .int .u32 0] ++ (List.map u8v h0)) : List Value)) hbd (by simp only [List.append_assoc, List.cons_append, List.nil_append, List.append_nil]) (by first | rfl | (simp only [List.length_append, List.length_map, List.length_cons, List.length_nil, (show List.length k0 = 32 from hk0)]; done) | (simp only [List.length_append, List.length_map, List.length_cons, List.length_nil, List.size_toArray, (show List.length k0 = 32 from hk0)]; done))), trivial⟩ ⟨rfl, rfl, rfl, trivial⟩ ?_
  refine wli_yield (fun _ _ => rfl) rfl rfl rfl (hY pre (k0, v0) _ (by have h := hD [] (k0, v0) [] rfl; rwa [List.append_nil] at h) (hJ _ _ _ hJp (Ch.drew _))) (by repeat (first | exact no_body (fun _ h => by rcases h with h | h <;> cases h.1) | with_reducible apply no_then | with_reducible apply no_in)) ?_
  rintro _ w' (⟨rfl, hJp⟩ | ⟨rfl, hJq⟩)
  ·
    refine ⟨_, rfl, ?_⟩
    refine wli rfl rfl rfl (p_as rfl) ?_
    refine wli_nil ?_
    refine x_seq ?_
    refine wc_ret ?_
    refine x_then_ret ?_
    refine fin_run ((res1 rfl rfl)) ?_
    exact .inl ⟨rfl, hJp⟩
  ·
    refine ⟨_, rfl, ?_⟩
    refine wli rfl rfl rfl (p_as rfl) ?_
    refine wli_nil ?_
    refine x_seq ?_
    refine wc_ret ?_
    refine x_then_ret ?_
    refine fin_run ((res1 rfl rfl)) ?_
    exact .inr ⟨rfl, _, hJq⟩

set_option maxHeartbeats 1000000 in
set_option maxRecDepth 20000 in
theorem each_fork {w : World} {m yl : Nat} {D : List (H8 × H8) → H8 × H8 → Prop} {J Jx : List (H8 × H8) → World → Prop} {pre : List (H8 × H8)} {g0 b : Nat} {x y : LT} (IHx : EachOK x) (IHy : EachOK y) (hX : ∀ xs A, J xs A → LAt 156 A (.fork g0 b x y)) (hJ : ∀ xs A B, J xs A → Ch No A B → J xs B) (hJx : ∀ xs A B, Jx xs A → Ch No A B → Jx xs B) (hD : ∀ p x1 q, (Tr.fork b x.er y.er).items = p ++ x1 :: q → D (pre ++ p) x1) (hY : ∀ pre x Wq, D pre x → J pre Wq → YieldAt Fence.wide m Tryd.prog yl ((fun x : List UInt8 × List UInt8 => #[hv x.1, hv x.2]) x) Wq fun ed W' => (ed = .returned (.bool true) ∧ J (pre ++ [x]) W') ∨ (ed = .returned (.bool false) ∧ Jx (pre ++ [x]) W')) (hJ0 : J pre w) :
    Calls Tryd.prog 98 #[ndp g0, .func (.yield yl) #[] #[]] w fun e w' => (e = .returned (.bool true) ∧ J (pre ++ (Tr.fork b x.er y.er).items) w') ∨ (e = .returned (.bool false) ∧ ∃ q, Jx q w') := by
  have hJp := hJ0
  obtain ⟨⟨hb256, hcn0, hk0, d0, h0, ⟨hh0, hO0⟩, hb0⟩, hXx, hXy⟩ := id (hX _ _ hJp)
  have hb0 : Blk w g0 156 (([i64 (b : Int), ndp x.adr, ndp y.adr] ++ ((List.map u8v x.er.key) ++ ((List.map u8v zeroH) ++ ([i64 ((x.er.cnt + y.er.cnt : Nat) : Int), .int .u32 (d0 : Int), .int .i32 ((0 : Nat) : Int), .int .u32 0] ++ (List.map u8v h0))))) : List Value).toArray := hb0
  have HC : Ch No w w := Ch.refl _ _
  refine enter' (args := [ndp g0, .func (.yield yl) #[] #[]]) (n := 38) Tryd.func98 rfl rfl rfl ?_
  refine wc_seq ?_
  refine wc_region ?_
  refine wl rfl rfl rfl (p_as rfl) ?_
  refine wl_nil ?_
  refine x_seq ?_
  refine wc_seq ?_
  refine wc_seq ?_
  refine wc_region ?_
  refine wl rfl rfl rfl (p_mv rfl) ?_
  refine wl rfl rfl rfl (p_eqPN rfl rfl Tryd.underlying39) ?_
  refine wl_nil ?_
  refine x_seq ?_
  refine wc_no rfl (rfl) ?_
  refine wc_skip ?_
  refine x_seq ?_
  refine wc_seq ?_
  refine wc_seq ?_
  refine wc_region ?_
  refine wl rfl rfl rfl (p_mv rfl) ?_
  refine wl rfl rfl rfl (p_nck rfl) ?_
  refine wl rfl rfl rfl (p_fld (j := 0) Tryd.underlying156 rfl ⟨_, by rfl⟩ rfl rfl) ?_
  refine wl rfl rfl rfl (p_ld Tryd.underlying3 rfl rfl (ld (cell_at (p := []) (v := (i64 (b : Int) : Value)) (r := (([ndp x.adr, ndp y.adr] ++ ((List.map u8v x.er.key) ++ ((List.map u8v zeroH) ++ ([i64 ((x.er.cnt + y.er.cnt : Nat) : Int), .int .u32 (d0 : Int), .int .i32 ((0 : Nat) : Int), .int .u32 0] ++ (List.map u8v h0))))) : List Value)) hb0 (by simp only [List.append_assoc, List.cons_append, List.nil_append, List.append_nil]) (by first | rfl | (simp only [List.length_append, List.length_map, List.length_cons, List.length_nil]; done) | (simp only [List.length_append, List.length_map, List.length_cons, List.length_nil, List.size_toArray]; done))))) ?_
  refine wl rfl rfl rfl (p_eq rfl rfl) ?_
  refine wl_nil ?_
  refine x_seq ?_
  refine wc_no rfl (decide_eq_false (by omega)) ?_
  refine wc_skip ?_
  refine x_seq ?_
  refine wc_seq ?_
  refine wc_region ?_
  refine wl rfl rfl rfl (p_mv rfl) ?_
  refine wl rfl rfl rfl (p_nck rfl) ?_
  refine wl rfl rfl rfl (p_fld (j := 1) Tryd.underlying156 rfl ⟨_, by rfl⟩ rfl rfl) ?_
  refine wl rfl rfl rfl (p_ixA (j := 0) Tryd.underlying142 sz39 rfl rfl (by omega) (by omega) rfl) ?_
  refine wl rfl rfl rfl (p_ld Tryd.underlying39 rfl rfl (ld (cell_at (p := ([i64 (b : Int)] : List Value)) (v := (ndp x.adr : Value)) (r := (([ndp y.adr] ++ ((List.map u8v x.er.key) ++ ((List.map u8v zeroH) ++ ([i64 ((x.er.cnt + y.er.cnt : Nat) : Int), .int .u32 (d0 : Int), .int .i32 ((0 : Nat) : Int), .int .u32 0] ++ (List.map u8v h0))))) : List Value)) hb0 (by simp only [List.append_assoc, List.cons_append, List.nil_append, List.append_nil]) (by first | rfl | (simp only [List.length_append, List.length_map, List.length_cons, List.length_nil]; done) | (simp only [List.length_append, List.length_map, List.length_cons, List.length_nil, List.size_toArray]; done))))) ?_
  refine wl rfl rfl rfl (p_mv rfl) ?_
  refine wle rfl (e_call ent98 rfl rfl (IHx (pre := pre) (fun xs A h => (hX xs A h).2.1) hJ hJx (fun p x1 q h => hD p x1 (q ++ y.er.items) (by show x.er.items ++ y.er.items = _; rw [h]; simp)) hY hJp) ?_)
  rintro _ w2 (⟨rfl, hJp⟩ | ⟨rfl, q, hJq⟩)
  ·
    refine ⟨_, rfl, ?_⟩
    obtain ⟨⟨hb256, hcn0, hk0, d0, h0, ⟨hh0, hO0⟩, hb0⟩, hXx, hXy⟩ := id (hX _ _ hJp)
    have hb0 : Blk w2 g0 156 (([i64 (b : Int), ndp x.adr, ndp y.adr] ++ ((List.map u8v x.er.key) ++ ((List.map u8v zeroH) ++ ([i64 ((x.er.cnt + y.er.cnt : Nat) : Int), .int .u32 (d0 : Int), .int .i32 ((0 : Nat) : Int), .int .u32 0] ++ (List.map u8v h0))))) : List Value).toArray := hb0
    refine wl rfl rfl rfl (p_mv rfl) ?_
    refine wl_g (gd_ rfl rfl rfl rfl rfl rfl) rfl rfl (p_mv rfl) ?_
    refine wl_g (gd_ rfl rfl rfl rfl rfl rfl) rfl rfl (p_nck rfl) ?_
    refine wl_g (gd_ rfl rfl rfl rfl rfl rfl) rfl rfl (p_fld (j := 1) Tryd.underlying156 rfl ⟨_, by rfl⟩ rfl rfl) ?_
    refine wl_g (gd_ rfl rfl rfl rfl rfl rfl) rfl rfl (p_ixA (j := 1) Tryd.underlying142 sz39 rfl rfl (by omega) (by omega) rfl) ?_
    refine wl_g (gd_ rfl rfl rfl rfl rfl rfl) rfl rfl (p_ld Tryd.underlying39 rfl rfl (ld (cell_at (p := ([i64 (b : Int), ndp x.adr] : List Value)) (v := (ndp y.adr : Value)) (r := (((List.map u8v x.er.key) ++ ((List.map u8v zeroH) ++ ([i64 ((x.er.cnt + y.er.cnt : Nat) : Int), .int .u32 (d0 : Int), .int .i32 ((0 : Nat) : Int), .int .u32 0] ++ (List.map u8v h0)))) : List Value)) hb0 (by simp only [List.append_assoc, List.cons_append, List.nil_append, List.append_nil]) (by first | rfl | (simp only [List.length_append, List.length_map, List.length_cons, List.length_nil]; done) | (simp only [List.length_append, List.length_map, List.length_cons, List.length_nil, List.size_toArray]; done))))) ?_
    refine wl_g (gd_ rfl rfl rfl rfl rfl rfl) rfl rfl (p_mv rfl) ?_
    refine wle_g (gd_ rfl rfl rfl rfl rfl rfl) (e_call ent98 rfl rfl (IHy (pre := (pre ++ x.er.items)) (fun xs A h => (hX xs A h).2.2) hJ hJx (fun p x1 q h => by have h2 := hD (x.er.items ++ p) x1 q (by show x.er.items ++ y.er.items = _; rw [h]; simp); rwa [← List.append_assoc] at h2) hY hJp) ?_)
    rintro _ w4 (⟨rfl, hJp⟩ | ⟨rfl, q, hJq⟩)
    ·
      refine ⟨_, rfl, ?_⟩
      obtain ⟨⟨hb256, hcn0, hk0, d0, h0, ⟨hh0, hO0⟩, hb0⟩, hXx, hXy⟩ := id (hX _ _ hJp)
      have hb0 : Blk w4 g0 156 (([i64 (b : Int), ndp x.adr, ndp y.adr] ++ ((List.map u8v x.er.key) ++ ((List.map u8v zeroH) ++ ([i64 ((x.er.cnt + y.er.cnt : Nat) : Int), .int .u32 (d0 : Int), .int .i32 ((0 : Nat) : Int), .int .u32 0] ++ (List.map u8v h0))))) : List Value).toArray := hb0
      refine wl rfl rfl rfl (p_pickT rfl rfl) ?_
      refine wl rfl rfl rfl (p_as rfl) ?_
      refine wl_nil ?_
      refine x_seq ?_
      refine wc_ret ?_
      refine fin_run ((res1 rfl rfl)) ?_
      exact .inl ⟨rfl, by show J (pre ++ (x.er.items ++ y.er.items)) _; rw [← List.append_assoc]; exact hJp⟩
    ·
      refine ⟨_, rfl, ?_⟩
      refine wl rfl rfl rfl (p_pickT rfl rfl) ?_
      refine wl rfl rfl rfl (p_as rfl) ?_
      refine wl_nil ?_
      refine x_seq ?_
      refine wc_ret ?_
      refine fin_run ((res1 rfl rfl)) ?_
      exact .inr ⟨rfl, q, hJq⟩
  ·
    refine ⟨_, rfl, ?_⟩
    refine wl rfl rfl rfl (p_mv rfl) ?_
    refine wl_s (gd_ rfl rfl rfl rfl rfl rfl) rfl rfl ?_
    refine wl_s (gd_ rfl rfl rfl rfl rfl rfl) rfl rfl ?_
    refine wl_s (gd_ rfl rfl rfl rfl rfl rfl) rfl rfl ?_
    refine wl_s (gd_ rfl rfl rfl rfl rfl rfl) rfl rfl ?_
    refine wl_s (gd_ rfl rfl rfl rfl rfl rfl) rfl rfl ?_
    refine wl_s (gd_ rfl rfl rfl rfl rfl rfl) rfl rfl ?_
    refine wl_s (gd_ rfl rfl rfl rfl rfl rfl) rfl rfl ?_
    refine wl rfl rfl rfl (p_pickF rfl rfl) ?_
    refine wl rfl rfl rfl (p_as rfl) ?_
    refine wl_nil ?_
    refine x_seq ?_
    refine wc_ret ?_
    refine fin_run ((res1 rfl rfl)) ?_
    exact .inr ⟨rfl, q, hJq⟩

theorem each_any : ∀ t : LT, EachOK t
  | .leaf g k v => fun hX hJ hJx hD hY hJ0 => each_leaf hX hJ hJx hD hY hJ0
  | .fork g b x y => fun hX hJ hJx hD hY hJ0 => each_fork (each_any x) (each_any y) hX hJ hJx hD hY hJ0

set_option maxHeartbeats 1000000 in
set_option maxRecDepth 20000 in
theorem each_nil {w : World} {yl : Nat}  :
    Calls Tryd.prog 98 #[.pointer none, .func (.yield yl) #[] #[]] w fun e w' => e = .returned (.bool true) ∧ Ch No w w' := by
  have HC : Ch No w w := Ch.refl _ _
  refine enter' (args := [.pointer none, .func (.yield yl) #[] #[]]) (n := 38) Tryd.func98 rfl rfl rfl ?_
  refine wc_seq ?_
  refine wc_region ?_
  refine wl rfl rfl rfl (p_as rfl) ?_
  refine wl_nil ?_
  refine x_seq ?_
  refine wc_seq ?_
  refine wc_seq ?_
  refine wc_region ?_
  refine wl rfl rfl rfl (p_mv rfl) ?_
  refine wl rfl rfl rfl (p_eqPN rfl rfl Tryd.underlying39) ?_
  refine wl_nil ?_
  refine x_seq ?_
  refine wc_yes rfl (rfl) ?_
  refine wc_seq ?_
  refine wc_region ?_
  refine wl rfl rfl rfl (p_as rfl) ?_
  refine wl_nil ?_
  refine x_seq ?_
  refine wc_ret ?_
  refine x_then_ret ?_
  refine fin_run ((res1 rfl rfl)) ?_
  exact ⟨rfl, HC⟩

set_option maxHeartbeats 1000000 in
set_option maxRecDepth 20000 in
theorem lives11_any {w : World}  (hrnd : Sl w (fun k => k = 0) u32v (some ⟨0, 0, none⟩) 64 64 rk) :
    Calls Tryd.prog 40 #[] w fun e w' => e = .returned (.bool true) ∧ Ch No w w' := by
  have hn0 : 0 < w.heap.size := hrnd.size (by omega) rfl
  have hn1 := hn0
  have HC : Ch No w w := Ch.refl _ _
  refine enter' (args := []) (n := 29) Tryd.func40 rfl rfl rfl ?_
  refine wc_seq ?_
  refine wc_region ?_
  refine wl rfl rfl rfl (p_as rfl) ?_
  refine wl_nil ?_
  refine x_seq ?_
  refine wc_seq ?_
  refine wc_region ?_
  refine wle rfl (e_alloc (cs := ((List.replicate 32 (0 : UInt8)).map u8v).toArray) rfl (by rfl) rfl (fun w1 g1 hg1 hb1 hc hsz1 => ?_))
  have hzw1 := hc.size
  have HC := HC.tr hc
  have hrnd := hrnd.no hc
  have hge1 : w.heap.size ≤ g1 := by have := HC.size; omega
  have hltg1 := hb1.lt
  refine wle rfl (e_alloc (cs := ((List.replicate 32 (0 : UInt8)).map u8v).toArray) rfl (by rfl) rfl (fun w2 g2 hg2 hb2 hc hsz2 => ?_))
  have hzw2 := hc.size
  have HC := HC.tr hc
  have hrnd := hrnd.no hc
  have hb1 := hb1.ch hc (fun h => h)
  have hge2 : w.heap.size ≤ g2 := by have := HC.size; omega
  have neg1_2 : g1 < g2 := by omega
  have hltg1 := hb1.lt
  have hltg2 := hb2.lt
  refine wle rfl (e_alloc (cs := ((List.replicate 32 (0 : UInt8)).map u8v).toArray) rfl (by rfl) rfl (fun w3 g3 hg3 hb3 hc hsz3 => ?_))
  have hzw3 := hc.size
  have HC := HC.tr hc
  have hrnd := hrnd.no hc
  have hb1 := hb1.ch hc (fun h => h)
  have hb2 := hb2.ch hc (fun h => h)
  have hge3 : w.heap.size ≤ g3 := by have := HC.size; omega
  have neg1_3 : g1 < g3 := by omega
  have neg2_3 : g2 < g3 := by omega
  refine wl_nil ?_
  refine x_seq ?_
  refine wc_seq ?_
  refine wc_region ?_
  refine wl rfl rfl rfl (p_ixA1 (j := 0) Tryd.underlying38 sz5 rfl rfl (by omega) (by omega) rfl) ?_
  refine wle rfl (e_stL (x := 1) one_u8 (by rfl) rfl rfl hb1 (by first | (simp; done) | (simp; omega) | omega) (fun w5 hb1 hc hsz => ?_))
  have hzw5 := hc.size
  have HC := HC.trans hc (fun _ _ h => h) (fun k hk ht => absurd ht (by omega))
  first | have hrnd := hrnd.ch hc (by intro k hk ht; first | omega | (dsimp only at *; omega)) | have hrnd := hrnd.chT hc (by intro k hz hk ht; first | omega | (dsimp only at *; omega))
  have hb2 := hb2.ch hc (by omega)
  have hb3 := hb3.ch hc (by omega)
  have hb1 : Blk w5 g1 38 (List.map u8v ((List.replicate 32 (0 : UInt8)).set 0 1)).toArray := hb1
  refine wl rfl rfl rfl (p_ixA1 (j := 5) Tryd.underlying38 sz5 rfl rfl (by omega) (by omega) rfl) ?_
  refine wle rfl (e_stL (x := 1) one_u8 (by rfl) rfl rfl hb2 (by first | (simp; done) | (simp; omega) | omega) (fun w7 hb2 hc hsz => ?_))
  have hzw7 := hc.size
  have HC := HC.trans hc (fun _ _ h => h) (fun k hk ht => absurd ht (by omega))
  first | have hrnd := hrnd.ch hc (by intro k hk ht; first | omega | (dsimp only at *; omega)) | have hrnd := hrnd.chT hc (by intro k hz hk ht; first | omega | (dsimp only at *; omega))
  have hb1 := hb1.ch hc (by omega)
  have hb3 := hb3.ch hc (by omega)
  have hb2 : Blk w7 g2 38 (List.map u8v ((List.replicate 32 (0 : UInt8)).set 5 1)).toArray := hb2
  refine wl_nil ?_
  refine x_seq ?_
  refine wc_seq ?_
  refine wc_draw (.st 1 1 (.st 2 1 (.st 4 1 (.st 5 1 (.st 7 1 (.st 0 2 (.st 3 2 (.st 6 2 (.st 8 2 (.st 9 0 .nil)))))))))) 10 (by kernel_rfl) (by kernel_rfl) (by kernel_rfl) (by repeat (first | with_reducible exact pan_body | with_reducible apply pan_then | with_reducible apply pan_in)) (fun x => Ch No w7.drew x) (Ch.refl _ _) ?_
  obtain ⟨w8, ew8⟩ : ∃ x, x = w7.drew := ⟨_, rfl⟩
  rw [← ew8]
  have hc : Ch No w7 w8 := by rw [ew8]; exact Ch.drew _
  have hszw8 : w8.heap.size = w7.heap.size := by rw [ew8]; rfl
  clear ew8
  have hzw8 := hc.size
  have HC := HC.tr hc
  have hrnd := hrnd.no hc
  have hb1 := hb1.ch hc (fun h => h)
  have hb2 := hb2.ch hc (fun h => h)
  have hb3 := hb3.ch hc (fun h => h)
  have hS : Ch No w8 w8 := Ch.refl _ _
  refine ws_h rfl rfl rfl rfl (p_ldA (cs := List.map u8v ((List.replicate 32 (0 : UInt8)).set 0 1)) Tryd.underlying38 rfl (szL sz38 (by rw [List.length_map]; exact ((List.length_set ..).trans (List.length_replicate ..)))) rfl (fun _ h => (rngL (hb1.ch h (fun h => h))))) ?_
  refine ws_h rfl rfl rfl rfl (p_ldA (cs := List.map u8v (List.replicate 32 (0 : UInt8))) Tryd.underlying38 rfl (szL sz38 (by rw [List.length_map]; exact (List.length_replicate ..))) rfl (fun _ h => (rngL (hb3.ch h (fun h => h))))) ?_
  refine ws_h rfl rfl rfl rfl (p_ldA (cs := List.map u8v ((List.replicate 32 (0 : UInt8)).set 5 1)) Tryd.underlying38 rfl (szL sz38 (by rw [List.length_map]; exact ((List.length_set ..).trans (List.length_replicate ..)))) rfl (fun _ h => (rngL (hb2.ch h (fun h => h))))) ?_
  refine ws_h rfl rfl rfl rfl (p_ldA (cs := List.map u8v (List.replicate 32 (0 : UInt8))) Tryd.underlying38 rfl (szL sz38 (by rw [List.length_map]; exact (List.length_replicate ..))) rfl (fun _ h => (rngL (hb3.ch h (fun h => h))))) ?_
  refine ws_h rfl rfl rfl rfl (p_ldA (cs := List.map u8v ((List.replicate 32 (0 : UInt8)).set 5 1)) Tryd.underlying38 rfl (szL sz38 (by rw [List.length_map]; exact ((List.length_set ..).trans (List.length_replicate ..)))) rfl (fun _ h => (rngL (hb2.ch h (fun h => h))))) ?_
  refine ws_e rfl rfl (e_call ent51 rfl rfl (new_any) ?_)
  rintro _ w9 ⟨v7, rfl, hV7, hc⟩
  refine ⟨_, rfl, hc, ?_⟩
  have hzw9 := hc.size
  have HC := HC.tr hc
  have hrnd := hrnd.no hc
  have hb1 := hb1.ch hc (fun h => h)
  have hb2 := hb2.ch hc (fun h => h)
  have hb3 := hb3.ch hc (fun h => h)
  have hV7 := hV7.mono (G := fun k => w8.heap.size ≤ k ∧ k < w9.heap.size) (fun k h1 h2 => ⟨h2, h1⟩)
  refine ws_narrow (S' := fun x => Ch No w9 x) (Ch.refl _ _) (fun x h => hc.tr h) ?_
  refine ws_e rfl rfl (e_call ent44 rfl rfl (tput_made (F := fun k => w.heap.size ≤ k) (hV7.mono (fun k _ h => by first | exact h.1 | (have h2 := h.1; show w.heap.size ≤ k; omega))) (fun j hj => by show w.heap.size ≤ j; omega) (((List.length_set ..).trans (List.length_replicate ..))) ((List.length_replicate ..)) (by show 0 + 1 ≤ _; omega)) ?_)
  rintro _ w10 ⟨v10, t10, rfl, hV10, heq10, hc⟩
  refine ⟨_, rfl, hc, ?_⟩
  have hzw10 := hc.size
  have HC := HC.tr hc
  have hrnd := hrnd.no hc
  have hb1 := hb1.ch hc (fun h => h)
  have hb2 := hb2.ch hc (fun h => h)
  have hb3 := hb3.ch hc (fun h => h)
  have hV7 := hV7.ch hc (by first | exact fun _ _ _ h => h | (intro k hk hF ht; have h2 := hF.1; have h3 := hF.2; first | omega | (dsimp only at *; omega)))
  have hV10 := hV10.mono (G := fun k => w.heap.size ≤ k ∧ k < w10.heap.size) (fun k h1 h2 => ⟨by first | exact h2 | exact h2.1 | ((try dsimp only at h2); omega), h1⟩)
  refine ws_narrow (S' := fun x => Ch No w10 x) (Ch.refl _ _) (fun x h => hc.tr h) ?_
  refine ws_e rfl rfl (e_call ent44 rfl rfl (tput_made (F := fun k => w.heap.size ≤ k) (hV10.mono (fun k _ h => by first | exact h.1 | (have h2 := h.1; show w.heap.size ≤ k; omega))) (fun j hj => by show w.heap.size ≤ j; omega) (((List.length_set ..).trans (List.length_replicate ..))) ((List.length_replicate ..)) (by rw [heq10]; exact Nat.le_trans (Nat.succ_le_succ putT_cnt) (by show 0 + 1 + 1 ≤ _; omega))) ?_)
  rintro _ w11 ⟨v13, t13, rfl, hV13, heq13, hc⟩
  refine ⟨_, rfl, hc, ?_⟩
  have hzw11 := hc.size
  have HC := HC.tr hc
  have hrnd := hrnd.no hc
  have hb1 := hb1.ch hc (fun h => h)
  have hb2 := hb2.ch hc (fun h => h)
  have hb3 := hb3.ch hc (fun h => h)
  have hV7 := hV7.ch hc (by first | exact fun _ _ _ h => h | (intro k hk hF ht; have h2 := hF.1; have h3 := hF.2; first | omega | (dsimp only at *; omega)))
  have hV10 := hV10.ch hc (by first | exact fun _ _ _ h => h | (intro k hk hF ht; have h2 := hF.1; have h3 := hF.2; first | omega | (dsimp only at *; omega)))
  have hV13 := hV13.mono (G := fun k => w.heap.size ≤ k ∧ k < w11.heap.size) (fun k h1 h2 => ⟨by first | exact h2 | exact h2.1 | ((try dsimp only at h2); omega), h1⟩)
  refine ws_narrow (S' := fun x => Ch No w11 x) (Ch.refl _ _) (fun x h => hc.tr h) ?_
  refine ws_e rfl rfl (e_call ent45 rfl rfl (tdrop_made (F := fun k => w.heap.size ≤ k) (hV13.mono (fun k _ h => by first | exact h.1 | (have h2 := h.1; show w.heap.size ≤ k; omega))) (fun j hj => by show w.heap.size ≤ j; omega) (((List.length_set ..).trans (List.length_replicate ..)))) ?_)
  rintro _ w12 ⟨v15, o15, rfl, hV15, heq15, hc⟩
  refine ⟨_, rfl, hc, ?_⟩
  have hzw12 := hc.size
  have HC := HC.tr hc
  have hrnd := hrnd.no hc
  have hb1 := hb1.ch hc (fun h => h)
  have hb2 := hb2.ch hc (fun h => h)
  have hb3 := hb3.ch hc (fun h => h)
  have hV7 := hV7.ch hc (by first | exact fun _ _ _ h => h | (intro k hk hF ht; have h2 := hF.1; have h3 := hF.2; first | omega | (dsimp only at *; omega)))
  have hV10 := hV10.ch hc (by first | exact fun _ _ _ h => h | (intro k hk hF ht; have h2 := hF.1; have h3 := hF.2; first | omega | (dsimp only at *; omega)))
  have hV13 := hV13.ch hc (by first | exact fun _ _ _ h => h | (intro k hk hF ht; have h2 := hF.1; have h3 := hF.2; first | omega | (dsimp only at *; omega)))
  have hV15 := hV15.mono (G := fun k => w.heap.size ≤ k ∧ k < w12.heap.size) (fun k h1 h2 => ⟨by first | exact h2 | exact h2.1 | ((try dsimp only at h2); omega), h1⟩)
  refine ws_narrow (S' := fun x => Ch No w12 x) (Ch.refl _ _) (fun x h => hc.tr h) ?_
  have hfin : eo o15 = some (.leaf ((List.replicate 32 (0 : UInt8)).set 0 1) zeroH) := by rw [heq15, heq13, heq10]; exact lives11_eq
  refine ws_p rfl rfl rfl rfl (p_as rfl) ?_
  refine ws_n ?_
  refine x_seq ?_
  refine wc_seq ?_
  refine wc_draw (.st 0 0 (.st 2 1 (.st 3 1 (.st 4 0 (.alt (.st 1 2 (.st 5 2 (.st 6 2 (.st 7 0 (.st 8 0 (.st 9 0 (.st 10 2 (.st 11 0 (.st 12 0 (.st 13 0 .nil)))))))))) (.st 5 2 (.st 1 2 (.st 6 2 (.st 7 0 (.st 8 0 (.st 9 0 (.st 10 2 (.st 11 0 (.st 12 0 (.st 13 0 .nil))))))))))))))) 14 (by kernel_rfl) (by kernel_rfl) (by kernel_rfl) (by repeat (first | with_reducible exact pan_body | with_reducible apply pan_then | with_reducible apply pan_in)) (fun z => Ch (fun k => k ∈ adsO o15) w12.drew z) (Ch.refl _ _) ?_
  obtain ⟨w13, ew13⟩ : ∃ x, x = w12.drew := ⟨_, rfl⟩
  rw [← ew13]
  have hc : Ch No w12 w13 := by rw [ew13]; exact Ch.drew _
  have hszw13 : w13.heap.size = w12.heap.size := by rw [ew13]; rfl
  clear ew13
  have hzw13 := hc.size
  have HC := HC.tr hc
  have hrnd := hrnd.no hc
  have hb1 := hb1.ch hc (fun h => h)
  have hb2 := hb2.ch hc (fun h => h)
  have hb3 := hb3.ch hc (fun h => h)
  have hV7 := hV7.ch hc (by first | exact fun _ _ _ h => h | (intro k hk hF ht; have h2 := hF.1; have h3 := hF.2; first | omega | (dsimp only at *; omega)))
  have hV10 := hV10.ch hc (by first | exact fun _ _ _ h => h | (intro k hk hF ht; have h2 := hF.1; have h3 := hF.2; first | omega | (dsimp only at *; omega)))
  have hV13 := hV13.ch hc (by first | exact fun _ _ _ h => h | (intro k hk hF ht; have h2 := hF.1; have h3 := hF.2; first | omega | (dsimp only at *; omega)))
  have hV15 := hV15.ch hc (by first | exact fun _ _ _ h => h | (intro k hk hF ht; have h2 := hF.1; have h3 := hF.2; first | omega | (dsimp only at *; omega)))
  have hS : Ch (fun k => k ∈ adsO o15) w13 w13 := Ch.refl _ _
  have hRBd := hV15.adsB
  refine ws_p rfl rfl rfl rfl (p_mv rfl) ?_
  refine ws_h rfl rfl rfl rfl (p_ldA (cs := List.map u8v ((List.replicate 32 (0 : UInt8)).set 0 1)) Tryd.underlying38 rfl (szL sz38 (by rw [List.length_map]; exact ((List.length_set ..).trans (List.length_replicate ..)))) rfl (fun _ h => (rngL (hb1.ch h (hb1.not_nd hRBd))))) ?_
  refine ws_h rfl rfl rfl rfl (p_ldA (cs := List.map u8v (List.replicate 32 (0 : UInt8))) Tryd.underlying38 rfl (szL sz38 (by rw [List.length_map]; exact (List.length_replicate ..))) rfl (fun _ h => (rngL (hb3.ch h (hb3.not_nd hRBd))))) ?_
  refine ws_p rfl rfl rfl rfl (p_bldX (vs' := [(.agg ((hx ((List.replicate 32 (0 : UInt8)).set 0 1)) : List Value).toArray), (.agg ((hx (List.replicate 32 (0 : UInt8))) : List Value).toArray)]) (cs := (((List.map u8v ((List.replicate 32 (0 : UInt8)).set 0 1)) ++ (List.map u8v (List.replicate 32 (0 : UInt8)))) : List Value)) (cs' := (((hx ((List.replicate 32 (0 : UInt8)).set 0 1)) ++ (hx (List.replicate 32 (0 : UInt8)))) : List Value)) rfl (by simp only [hv, map_hx ((List.length_set ..).trans (List.length_replicate ..)), map_hx (List.length_replicate ..)] <;> rfl) (by simp only [hv, map_hx ((List.length_set ..).trans (List.length_replicate ..)), map_hx (List.length_replicate ..)] <;> rfl) (fun _ => by kernel_rfl)) ?_
  refine ws_alt ?_ ?_
  ·
    refine ws_e rfl rfl (e_call ent46 rfl rfl (troot_made hV15 hrnd) ?_)
    rintro _ w14 ⟨rfl, hc, hFil, hRB, hRF⟩
    refine ⟨_, rfl, (by first | exact hS.tr hc | exact hS.trans hc (fun _ _ h => h) (fun _ _ h => h)), ?_⟩
    have hR0 := hV15.ot.out hrnd (by omega)
    have hRo : ∀ k, k < w.heap.size → k ∈ adsO o15 → False := fun k h1 h2 => absurd (hRF k h2).1 (by omega)
    have hzw14 := hc.size
    have HC := HC.trans hc (fun _ _ h => h) (fun k hk ht => absurd (hRF k ht).1 (by omega))
    have hrnd := hrnd.ch hc (fun k hk ht => hR0 (hk ▸ ht))
    first | have hb1 := hb1.ch hc (hb1.not_nd hRB) | have hb1 := hb1.ch hc (by assumption)
    first | have hb2 := hb2.ch hc (hb2.not_nd hRB) | have hb2 := hb2.ch hc (by assumption)
    first | have hb3 := hb3.ch hc (hb3.not_nd hRB) | have hb3 := hb3.ch hc (by assumption)
    have hV7 := hV7.fil hc hRB hFil
    have hV10 := hV10.fil hc hRB hFil
    have hV13 := hV13.fil hc hRB hFil
    have hV15 := hV15.fil hc hRB hFil
    have hS := (by first | exact hS.tr hc | exact hS.trans hc (fun _ _ h => h) (fun _ _ h => h))
    have hltg1 := hb1.lt
    have hltg2 := hb2.lt
    have hltg3 := hb3.lt
    refine ws_e rfl rfl (e_bslX (E := 81) (cs := (((List.map u8v ((List.replicate 32 (0 : UInt8)).set 0 1)) ++ (List.map u8v (List.replicate 32 (0 : UInt8)))) : List Value)) (cs' := (((hx ((List.replicate 32 (0 : UInt8)).set 0 1)) ++ (hx (List.replicate 32 (0 : UInt8)))) : List Value)) rfl rfl (by simp only [hv, map_hx ((List.length_set ..).trans (List.length_replicate ..)), map_hx (List.length_replicate ..)] <;> rfl) (fun _ => by kernel_rfl) (fun w15 g21 hg21 hb21 hc hsz21 => ⟨(by first | exact hS.tr hc | exact hS.trans hc (fun _ _ h => h) (fun _ _ h => h)), ?_⟩))
    have hzw15 := hc.size
    have HC := HC.tr hc
    have hrnd := hrnd.no hc
    have hb1 := hb1.ch hc (fun h => h)
    have hb2 := hb2.ch hc (fun h => h)
    have hb3 := hb3.ch hc (fun h => h)
    have hV7 := hV7.ch hc (by first | exact fun _ _ _ h => h | (intro k hk hF ht; have h2 := hF.1; have h3 := hF.2; first | omega | (dsimp only at *; omega)))
    have hV10 := hV10.ch hc (by first | exact fun _ _ _ h => h | (intro k hk hF ht; have h2 := hF.1; have h3 := hF.2; first | omega | (dsimp only at *; omega)))
    have hV13 := hV13.ch hc (by first | exact fun _ _ _ h => h | (intro k hk hF ht; have h2 := hF.1; have h3 := hF.2; first | omega | (dsimp only at *; omega)))
    have hV15 := hV15.ch hc (by first | exact fun _ _ _ h => h | (intro k hk hF ht; have h2 := hF.1; have h3 := hF.2; first | omega | (dsimp only at *; omega)))
    have hge21 : w.heap.size ≤ g21 := by have := HC.size; omega
    have hS21 := SI.oneA (E := eIT) (x := (((List.replicate 32 (0 : UInt8)).set 0 1), (List.replicate 32 (0 : UInt8)))) hb21 rfl ⟨((List.length_set ..).trans (List.length_replicate ..)), (List.length_replicate ..)⟩
    have hS := (by first | exact hS.tr hc | exact hS.trans hc (fun _ _ h => h) (fun _ _ h => h))
    refine ws_e rfl rfl (e_call ent50 rfl rfl (rroot_any (.leaf ((List.replicate 32 (0 : UInt8)).set 0 1) zeroH) (hS21) ⟨by simp, zeroH_len⟩ (by omega)) ?_)
    rintro _ w16 ⟨rfl, hc⟩
    refine ⟨_, rfl, (by first | exact hS.tr hc | exact hS.trans hc (fun _ _ h => h) (fun _ _ h => h)), ?_⟩
    have hzw16 := hc.size
    have HC := HC.tr hc
    have hrnd := hrnd.no hc
    have hb1 := hb1.ch hc (fun h => h)
    have hb2 := hb2.ch hc (fun h => h)
    have hb3 := hb3.ch hc (fun h => h)
    have hV7 := hV7.ch hc (by first | exact fun _ _ _ h => h | (intro k hk hF ht; have h2 := hF.1; have h3 := hF.2; first | omega | (dsimp only at *; omega)))
    have hV10 := hV10.ch hc (by first | exact fun _ _ _ h => h | (intro k hk hF ht; have h2 := hF.1; have h3 := hF.2; first | omega | (dsimp only at *; omega)))
    have hV13 := hV13.ch hc (by first | exact fun _ _ _ h => h | (intro k hk hF ht; have h2 := hF.1; have h3 := hF.2; first | omega | (dsimp only at *; omega)))
    have hV15 := hV15.ch hc (by first | exact fun _ _ _ h => h | (intro k hk hF ht; have h2 := hF.1; have h3 := hF.2; first | omega | (dsimp only at *; omega)))
    have hS21 := hS21.no hc
    have hb21 := hb21.ch hc (fun h => h)
    have hS := (by first | exact hS.tr hc | exact hS.trans hc (fun _ _ h => h) (fun _ _ h => h))
    refine ws_p rfl rfl rfl rfl (p_eqH (a := (rootT (eo o15))) (b := (Tr.root (.leaf ((List.replicate 32 (0 : UInt8)).set 0 1) zeroH))) (by kernel_rfl) Tryd.underlying38 Tryd.underlying5 sz5 rfl rfl (rootT_len) (Tr.root_len)) ?_
    refine ws_p rfl rfl rfl rfl (p_mv rfl) ?_
    refine ws_know (d := 24) (b' := true) rfl (by rw [hfin]; simp [rootT]) ?_
    refine ws_pg rfl (gd_ rfl rfl rfl rfl rfl rfl) rfl rfl (p_mv rfl) ?_
    refine ws_eg rfl (gd_ rfl rfl rfl rfl rfl rfl) (e_call ent43 rfl rfl (tlen_made hV15) ?_)
    rintro _ w17 ⟨rfl, hc⟩
    refine ⟨_, rfl, (by first | exact hS.tr hc | exact hS.trans hc (fun _ _ h => h) (fun _ _ h => h)), ?_⟩
    have hzw17 := hc.size
    have HC := HC.tr hc
    have hrnd := hrnd.no hc
    have hb1 := hb1.ch hc (fun h => h)
    have hb2 := hb2.ch hc (fun h => h)
    have hb3 := hb3.ch hc (fun h => h)
    have hV7 := hV7.ch hc (by first | exact fun _ _ _ h => h | (intro k hk hF ht; have h2 := hF.1; have h3 := hF.2; first | omega | (dsimp only at *; omega)))
    have hV10 := hV10.ch hc (by first | exact fun _ _ _ h => h | (intro k hk hF ht; have h2 := hF.1; have h3 := hF.2; first | omega | (dsimp only at *; omega)))
    have hV13 := hV13.ch hc (by first | exact fun _ _ _ h => h | (intro k hk hF ht; have h2 := hF.1; have h3 := hF.2; first | omega | (dsimp only at *; omega)))
    have hV15 := hV15.ch hc (by first | exact fun _ _ _ h => h | (intro k hk hF ht; have h2 := hF.1; have h3 := hF.2; first | omega | (dsimp only at *; omega)))
    have hS21 := hS21.no hc
    have hb21 := hb21.ch hc (fun h => h)
    have hS := (by first | exact hS.tr hc | exact hS.trans hc (fun _ _ h => h) (fun _ _ h => h))
    refine ws_pg rfl (gd_ rfl rfl rfl rfl rfl rfl) rfl rfl (p_eq rfl rfl) ?_
    refine ws_p rfl rfl rfl rfl (p_pickT rfl rfl) ?_
    refine ws_p rfl rfl rfl rfl (p_as rfl) ?_
    refine ws_n ?_
    refine x_seq ?_
    refine wc_ret ?_
    refine fin_run ((res1 rfl rfl)) ?_
    exact ⟨by rw [hfin]; rfl, HC⟩
  ·
    have hltg1 := hb1.lt
    have hltg2 := hb2.lt
    have hltg3 := hb3.lt
    refine ws_e rfl rfl (e_bslX (E := 81) (cs := (((List.map u8v ((List.replicate 32 (0 : UInt8)).set 0 1)) ++ (List.map u8v (List.replicate 32 (0 : UInt8)))) : List Value)) (cs' := (((hx ((List.replicate 32 (0 : UInt8)).set 0 1)) ++ (hx (List.replicate 32 (0 : UInt8)))) : List Value)) rfl rfl (by simp only [hv, map_hx ((List.length_set ..).trans (List.length_replicate ..)), map_hx (List.length_replicate ..)] <;> rfl) (fun _ => by kernel_rfl) (fun w18 g21 hg21 hb21 hc hsz21 => ⟨(by first | exact hS.tr hc | exact hS.trans hc (fun _ _ h => h) (fun _ _ h => h)), ?_⟩))
    have hzw18 := hc.size
    have HC := HC.tr hc
    have hrnd := hrnd.no hc
    have hb1 := hb1.ch hc (fun h => h)
    have hb2 := hb2.ch hc (fun h => h)
    have hb3 := hb3.ch hc (fun h => h)
    have hV7 := hV7.ch hc (by first | exact fun _ _ _ h => h | (intro k hk hF ht; have h2 := hF.1; have h3 := hF.2; first | omega | (dsimp only at *; omega)))
    have hV10 := hV10.ch hc (by first | exact fun _ _ _ h => h | (intro k hk hF ht; have h2 := hF.1; have h3 := hF.2; first | omega | (dsimp only at *; omega)))
    have hV13 := hV13.ch hc (by first | exact fun _ _ _ h => h | (intro k hk hF ht; have h2 := hF.1; have h3 := hF.2; first | omega | (dsimp only at *; omega)))
    have hV15 := hV15.ch hc (by first | exact fun _ _ _ h => h | (intro k hk hF ht; have h2 := hF.1; have h3 := hF.2; first | omega | (dsimp only at *; omega)))
    have hge21 : w.heap.size ≤ g21 := by have := HC.size; omega
    have hS21 := SI.oneA (E := eIT) (x := (((List.replicate 32 (0 : UInt8)).set 0 1), (List.replicate 32 (0 : UInt8)))) hb21 rfl ⟨((List.length_set ..).trans (List.length_replicate ..)), (List.length_replicate ..)⟩
    have hS := (by first | exact hS.tr hc | exact hS.trans hc (fun _ _ h => h) (fun _ _ h => h))
    refine ws_e rfl rfl (e_call ent46 rfl rfl (troot_made hV15 hrnd) ?_)
    rintro _ w19 ⟨rfl, hc, hFil, hRB, hRF⟩
    refine ⟨_, rfl, (by first | exact hS.tr hc | exact hS.trans hc (fun _ _ h => h) (fun _ _ h => h)), ?_⟩
    have hR0 := hV15.ot.out hrnd (by omega)
    have hRo : ∀ k, k < w.heap.size → k ∈ adsO o15 → False := fun k h1 h2 => absurd (hRF k h2).1 (by omega)
    have hzw19 := hc.size
    have HC := HC.trans hc (fun _ _ h => h) (fun k hk ht => absurd (hRF k ht).1 (by omega))
    have hrnd := hrnd.ch hc (fun k hk ht => hR0 (hk ▸ ht))
    first | have hb1 := hb1.ch hc (hb1.not_nd hRB) | have hb1 := hb1.ch hc (by assumption)
    first | have hb2 := hb2.ch hc (hb2.not_nd hRB) | have hb2 := hb2.ch hc (by assumption)
    first | have hb3 := hb3.ch hc (hb3.not_nd hRB) | have hb3 := hb3.ch hc (by assumption)
    have hV7 := hV7.fil hc hRB hFil
    have hV10 := hV10.fil hc hRB hFil
    have hV13 := hV13.fil hc hRB hFil
    have hV15 := hV15.fil hc hRB hFil
    have hS21 := hS21.ch hc (fun k hk ht => (show ¬ _ from hb21.not_nd hRB) (by have h9 : k = g21 := hk; rw [← h9]; exact ht))
    first | have hb21 := hb21.ch hc (hb21.not_nd hRB) | have hb21 := hb21.ch hc (by assumption)
    have hS := (by first | exact hS.tr hc | exact hS.trans hc (fun _ _ h => h) (fun _ _ h => h))
    refine ws_e rfl rfl (e_call ent50 rfl rfl (rroot_any (.leaf ((List.replicate 32 (0 : UInt8)).set 0 1) zeroH) (hS21) ⟨by simp, zeroH_len⟩ (by omega)) ?_)
    rintro _ w20 ⟨rfl, hc⟩
    refine ⟨_, rfl, (by first | exact hS.tr hc | exact hS.trans hc (fun _ _ h => h) (fun _ _ h => h)), ?_⟩
    have hzw20 := hc.size
    have HC := HC.tr hc
    have hrnd := hrnd.no hc
    have hb1 := hb1.ch hc (fun h => h)
    have hb2 := hb2.ch hc (fun h => h)
    have hb3 := hb3.ch hc (fun h => h)
    have hV7 := hV7.ch hc (by first | exact fun _ _ _ h => h | (intro k hk hF ht; have h2 := hF.1; have h3 := hF.2; first | omega | (dsimp only at *; omega)))
    have hV10 := hV10.ch hc (by first | exact fun _ _ _ h => h | (intro k hk hF ht; have h2 := hF.1; have h3 := hF.2; first | omega | (dsimp only at *; omega)))
    have hV13 := hV13.ch hc (by first | exact fun _ _ _ h => h | (intro k hk hF ht; have h2 := hF.1; have h3 := hF.2; first | omega | (dsimp only at *; omega)))
    have hV15 := hV15.ch hc (by first | exact fun _ _ _ h => h | (intro k hk hF ht; have h2 := hF.1; have h3 := hF.2; first | omega | (dsimp only at *; omega)))
    have hS21 := hS21.no hc
    have hb21 := hb21.ch hc (fun h => h)
    have hS := (by first | exact hS.tr hc | exact hS.trans hc (fun _ _ h => h) (fun _ _ h => h))
    refine ws_p rfl rfl rfl rfl (p_eqH (a := (rootT (eo o15))) (b := (Tr.root (.leaf ((List.replicate 32 (0 : UInt8)).set 0 1) zeroH))) (by kernel_rfl) Tryd.underlying38 Tryd.underlying5 sz5 rfl rfl (rootT_len) (Tr.root_len)) ?_
    refine ws_p rfl rfl rfl rfl (p_mv rfl) ?_
    refine ws_know (d := 24) (b' := true) rfl (by rw [hfin]; simp [rootT]) ?_
    refine ws_pg rfl (gd_ rfl rfl rfl rfl rfl rfl) rfl rfl (p_mv rfl) ?_
    refine ws_eg rfl (gd_ rfl rfl rfl rfl rfl rfl) (e_call ent43 rfl rfl (tlen_made hV15) ?_)
    rintro _ w21 ⟨rfl, hc⟩
    refine ⟨_, rfl, (by first | exact hS.tr hc | exact hS.trans hc (fun _ _ h => h) (fun _ _ h => h)), ?_⟩
    have hzw21 := hc.size
    have HC := HC.tr hc
    have hrnd := hrnd.no hc
    have hb1 := hb1.ch hc (fun h => h)
    have hb2 := hb2.ch hc (fun h => h)
    have hb3 := hb3.ch hc (fun h => h)
    have hV7 := hV7.ch hc (by first | exact fun _ _ _ h => h | (intro k hk hF ht; have h2 := hF.1; have h3 := hF.2; first | omega | (dsimp only at *; omega)))
    have hV10 := hV10.ch hc (by first | exact fun _ _ _ h => h | (intro k hk hF ht; have h2 := hF.1; have h3 := hF.2; first | omega | (dsimp only at *; omega)))
    have hV13 := hV13.ch hc (by first | exact fun _ _ _ h => h | (intro k hk hF ht; have h2 := hF.1; have h3 := hF.2; first | omega | (dsimp only at *; omega)))
    have hV15 := hV15.ch hc (by first | exact fun _ _ _ h => h | (intro k hk hF ht; have h2 := hF.1; have h3 := hF.2; first | omega | (dsimp only at *; omega)))
    have hS21 := hS21.no hc
    have hb21 := hb21.ch hc (fun h => h)
    have hS := (by first | exact hS.tr hc | exact hS.trans hc (fun _ _ h => h) (fun _ _ h => h))
    refine ws_pg rfl (gd_ rfl rfl rfl rfl rfl rfl) rfl rfl (p_eq rfl rfl) ?_
    refine ws_p rfl rfl rfl rfl (p_pickT rfl rfl) ?_
    refine ws_p rfl rfl rfl rfl (p_as rfl) ?_
    refine ws_n ?_
    refine x_seq ?_
    refine wc_ret ?_
    refine fin_run ((res1 rfl rfl)) ?_
    exact ⟨by rw [hfin]; rfl, HC⟩

set_option maxHeartbeats 1000000 in
set_option maxRecDepth 20000 in
theorem made11_any {w : World}  {Al : Option Addr} {ll cl : Nat} {Fl : Nat → Prop} {l : List AC} (hin : SI w Fl eAC Al ll cl l) (hll : ll ≤ 1000) :
    Calls Tryd.prog 41 #[.slice Al ll cl] w fun e w' => ∃ v o A lm cm, e = .returned (.tuple #[v, .slice A lm cm]) ∧ TR 41 156 (fun k => w.heap.size ≤ k) w' v o ∧ eo o = mkA l ∧ RI w' (fun k => w.heap.size ≤ k) 81 eIT A lm cm (itemsT (mkA l)) ∧ Ch No w w' := by
  have hinl := hin.len
  have hok := hin.ok
  have hin := hin.old
  have HC : Ch No w w := Ch.refl _ _
  refine enter' (args := [.slice Al ll cl]) (n := 40) Tryd.func41 rfl rfl rfl ?_
  refine wc_seq ?_
  refine wc_region ?_
  refine wl rfl rfl rfl (p_as rfl) ?_
  refine wl rfl rfl rfl (p_as rfl) ?_
  refine wl_nil ?_
  refine x_seq ?_
  refine wc_seq ?_
  refine wc_region ?_
  refine wle rfl (e_call ent51 rfl rfl (new_any) ?_)
  rintro _ w1 ⟨v8, rfl, hV8, hc⟩
  refine ⟨_, rfl, ?_⟩
  have hzw1 := hc.size
  have HC := HC.tr hc
  have hin := hin.no hc
  have hV8 := hV8.mono (G := fun k => w.heap.size ≤ k ∧ k < w1.heap.size) (fun k h1 h2 => ⟨h2, h1⟩)
  refine wl rfl rfl rfl (p_as rfl) ?_
  refine wl_nil ?_
  refine x_seq ?_
  refine wc_seq ?_
  refine wc_region ?_
  refine wl rfl rfl rfl (p_as rfl) ?_
  refine wl_nil ?_
  refine x_seq ?_
  refine wc_seq ?_
  refine wc_seq ?_
  refine wc_region ?_
  refine wl rfl rfl rfl (p_mv rfl) ?_
  refine wl rfl rfl rfl (p_lenS Tryd.underlying64 rfl) ?_
  refine wl rfl rfl rfl (p_mv rfl) ?_
  refine wl_nil ?_
  refine x_seq ?_
  refine wc_block ?_
  refine wc_loop (e' := [(4, (_)), (5, .slice (none) (0) (0)), (9, .slice Al ll cl), (10, i64 (ll : Int)), (11, i64 ((0) : Int))]) (fun mz ez uz => ∃ i : Nat, ∃ v : Value, ∃ o : Option LT, ∃ Am : Option Addr, ∃ lm : Nat, ∃ cm : Nat, mz = ll - i ∧ ez = [(4, v), (5, .slice Am lm cm), (9, .slice Al ll cl), (10, i64 (ll : Int)), (11, i64 (i : Int))] ∧ (i ≤ ll) ∧ (eo o = mkA (l.take i)) ∧ (TR 41 156 (fun k => w.heap.size ≤ k) uz v o) ∧ (RI uz (fun k => w.heap.size ≤ k) 81 eIT Am lm cm (itemsT (mkA (l.take i)))) ∧ (SI uz (fun k => k < w.heap.size) eAC Al ll cl l) ∧ (Ch No w uz))
    ⟨rfl, rfl, rfl, rfl, rfl, trivial⟩ ⟨0, _, _, none, 0, 0, rfl, rfl, (by omega), rfl, (hV8.mono (fun k _ h => by have := h.1; show w.heap.size ≤ k; omega)), RI.nil _ _ _ _, hin, HC⟩ ?_
  rintro m0 e w2 ⟨i, v, o, Am, lm, cm, hm0, rfl, hi, heo, hV, hM, hin, HC⟩
  have hzw2 := HC.size
  have hV := hV.mono (G := fun k => w.heap.size ≤ k ∧ k < w2.heap.size) (fun k h1 h2 => ⟨by first | exact h2 | exact h2.1 | ((try dsimp only at h2); omega), h1⟩)
  have hM := hM.mono (G := fun k => w.heap.size ≤ k ∧ k < w2.heap.size) (fun k h1 h2 => ⟨by first | exact h2 | exact h2.1 | ((try dsimp only at h2); omega), h1⟩)
  refine wc_seq ?_
  refine wc_region ?_
  refine wl rfl rfl rfl (p_lt rfl rfl) ?_
  refine wl_nil ?_
  refine x_seq ?_
  refine wc_seq ?_
  refine wc_if rfl (fun c0 => ?_) (fun c0 => ?_)
  ·
    have c0 := of_decide_eq_true c0
    refine wc_skip ?_
    refine x_seq ?_
    refine wc_seq ?_
    refine wc_block ?_
    refine wc_seq ?_
    refine wc_region ?_
    obtain ⟨b3, o3, hA3, hF3, hr3⟩ := (hin).opn (i := i) (d := ⟨zeroH, zeroH, false⟩) (by omega)
    have hok3 := (hin).okAt (i := i) (d := ⟨zeroH, zeroH, false⟩) (by omega)
    obtain ⟨x3, ex3⟩ : ∃ x, x = List.getD l (i) ⟨zeroH, zeroH, false⟩ := ⟨_, rfl⟩
    rw [← ex3] at hr3 hok3
    obtain ⟨hx3k, hx3v⟩ := hok3
    have hr3 : w2.rangeAt b3 (o3 + i * 65) (((List.map u8v x3.k) ++ ((List.map u8v x3.v) ++ [.bool x3.dr])) : List Value) := hr3
    refine wl rfl rfl rfl (p_ixS (j := i * 65) Tryd.underlying64 sz66 rfl hA3 rfl (by omega) (by omega) (congrArg (· * 65) (Int.toNat_natCast _))) ?_
    have hmk : mkA (l.take (i + 1)) = actT (mkA (l.take i)) x3 := by rw [ex3]; exact mkA_take (by omega)
    obtain ⟨hwf, hct⟩ := mkA_ok l i hok (by omega)
    have hcnt : cntT (eo o) + 1 ≤ 4611686018427387904 := by rw [heo]; omega
    have hml : lm = cntT (mkA (l.take i)) := by rw [← itemsT_cnt]; exact hM.len.symm
    refine wl rfl rfl rfl (p_ldA (cs := (((List.map u8v x3.k) ++ ((List.map u8v x3.v) ++ [.bool x3.dr])) : List Value)) Tryd.underlying66 rfl (szL sz66 (by first | rfl | (simp only [List.length_append, List.length_map, List.length_cons, List.length_nil, (show List.length x3.k = 32 from hx3k), (show List.length x3.v = 32 from hx3v)]; done) | (simp only [List.length_append, List.length_map, List.length_cons, List.length_nil, List.size_toArray, (show List.length x3.k = 32 from hx3k), (show List.length x3.v = 32 from hx3v)]; done))) rfl (fun _ e => e ▸ hr3)) ?_
    refine wle rfl (e_alloc (cs := (((List.map u8v (List.replicate 32 (0 : UInt8))) ++ ((List.map u8v (List.replicate 32 (0 : UInt8))) ++ [Value.bool false])) : List Value).toArray) rfl (by rfl) (by rfl) (fun w4 g7 hg7 hb7 hc hsz7 => ?_))
    have hzw4 := hc.size
    have HC := HC.tr hc
    have hin := hin.no hc
    have hV := hV.ch hc (by first | exact fun _ _ _ h => h | (intro k hk hF ht; have h2 := hF.1; have h3 := hF.2; first | omega | (dsimp only at *; omega)))
    have hM := hM.after hc
    have hge7 : w.heap.size ≤ g7 := by have := HC.size; omega
    refine wle rfl (e_stW (vs := (((List.map u8v x3.k) ++ ((List.map u8v x3.v) ++ [.bool x3.dr])) : List Value)) (szL sz66 (by first | rfl | (simp only [List.length_append, List.length_map, List.length_cons, List.length_nil, (show List.length x3.k = 32 from hx3k), (show List.length x3.v = 32 from hx3v)]; done) | (simp only [List.length_append, List.length_map, List.length_cons, List.length_nil, List.size_toArray, (show List.length x3.k = 32 from hx3k), (show List.length x3.v = 32 from hx3v)]; done))) (oneA (oneL one_u8 _) (oneA (oneL one_u8 _) (allOne rfl))) rfl rfl hb7 (by first | rfl | (simp only [List.length_append, List.length_map, List.length_cons, List.length_nil, (show List.length (List.replicate 32 (0 : UInt8)) = 32 from (List.length_replicate ..)), (show List.length (List.replicate 32 (0 : UInt8)) = 32 from (List.length_replicate ..)), (show List.length x3.k = 32 from hx3k), (show List.length x3.v = 32 from hx3v)]; done) | (simp only [List.length_append, List.length_map, List.length_cons, List.length_nil, List.size_toArray, (show List.length (List.replicate 32 (0 : UInt8)) = 32 from (List.length_replicate ..)), (show List.length (List.replicate 32 (0 : UInt8)) = 32 from (List.length_replicate ..)), (show List.length x3.k = 32 from hx3k), (show List.length x3.v = 32 from hx3v)]; done)) (fun w5 hb7 hc hsz => ?_))
    have hzw5 := hc.size
    have HC := HC.trans hc (fun _ _ h => h) (fun k hk ht => absurd ht (by omega))
    first | have hin := hin.ch hc (by intro k hk ht; first | omega | (dsimp only at *; omega)) | have hin := hin.chT hc (by intro k hz hk ht; first | omega | (dsimp only at *; omega))
    have hV := hV.ch hc (by first | exact fun _ _ _ h => h | (intro k hk hF ht; have h2 := hF.1; have h3 := hF.2; first | omega | (dsimp only at *; omega)))
    have hM := hM.ch hc (by intro k hz hk ht; first | omega | (dsimp only at *; omega))
    refine wl_nil ?_
    refine x_seq ?_
    refine wc_seq ?_
    refine wc_region ?_
    refine wl rfl rfl rfl (p_fld (j := 64) Tryd.underlying66 rfl ⟨_, by rfl⟩ rfl rfl) ?_
    refine wl rfl rfl rfl (p_ld Tryd.underlying4 rfl rfl (ld (cell_at (p := (((List.map u8v x3.k) ++ (List.map u8v x3.v)) : List Value)) (v := (.bool x3.dr : Value)) (r := []) hb7 (by simp only [List.append_assoc, List.cons_append, List.nil_append, List.append_nil]) (by first | rfl | (simp only [List.length_append, List.length_map, List.length_cons, List.length_nil, (show List.length x3.k = 32 from hx3k), (show List.length x3.v = 32 from hx3v)]; done) | (simp only [List.length_append, List.length_map, List.length_cons, List.length_nil, List.size_toArray, (show List.length x3.k = 32 from hx3k), (show List.length x3.v = 32 from hx3v)]; done))))) ?_
    refine wl_nil ?_
    refine x_seq ?_
    refine wc_if rfl (fun c1 => ?_) (fun c1 => ?_)
    ·
      refine wc_draw (.st 0 0 (.st 1 0 (.st 2 1 (.st 4 0 (.st 5 0 (.st 6 1 (.st 3 2 (.st 7 2 (.st 8 0 (.st 9 0 .nil)))))))))) 10 (by kernel_rfl) (by kernel_rfl) (by kernel_rfl) (by repeat (first | with_reducible exact pan_body | with_reducible apply pan_then | with_reducible apply pan_in)) (fun x => Ch No w5.drew x) (Ch.refl _ _) ?_
      obtain ⟨w6, ew6⟩ : ∃ x, x = w5.drew := ⟨_, rfl⟩
      rw [← ew6]
      have hc : Ch No w5 w6 := by rw [ew6]; exact Ch.drew _
      have hszw6 : w6.heap.size = w5.heap.size := by rw [ew6]; rfl
      clear ew6
      have hzw6 := hc.size
      have HC := HC.tr hc
      have hin := hin.no hc
      have hV := hV.ch hc (by first | exact fun _ _ _ h => h | (intro k hk hF ht; have h2 := hF.1; have h3 := hF.2; first | omega | (dsimp only at *; omega)))
      have hM := hM.no hc
      have hb7 := hb7.ch hc (fun h => h)
      have hS : Ch No w6 w6 := Ch.refl _ _
      refine ws_p rfl rfl rfl rfl (p_mv rfl) ?_
      refine ws_p rfl rfl rfl rfl (p_fld (j := 0) Tryd.underlying66 rfl ⟨_, by rfl⟩ rfl rfl) ?_
      refine ws_h rfl rfl rfl rfl (p_ldA (cs := (List.map u8v x3.k)) Tryd.underlying38 rfl (szL sz38 (by first | rfl | (simp only [List.length_append, List.length_map, List.length_cons, List.length_nil, (show List.length x3.k = 32 from hx3k)]; done) | (simp only [List.length_append, List.length_map, List.length_cons, List.length_nil, List.size_toArray, (show List.length x3.k = 32 from hx3k)]; done))) rfl (fun _ h => rng_at (p := []) (q := ((List.map u8v x3.k) : List Value)) (r := (((List.map u8v x3.v) ++ [.bool x3.dr]) : List Value)) (hb7.ch h (fun h => h)) (by simp only [List.append_assoc, List.cons_append, List.nil_append, List.append_nil]) (by first | rfl | (simp only [List.length_append, List.length_map, List.length_cons, List.length_nil]; done) | (simp only [List.length_append, List.length_map, List.length_cons, List.length_nil, List.size_toArray]; done)))) ?_
      refine ws_p rfl rfl rfl rfl (p_mv rfl) ?_
      refine ws_p rfl rfl rfl rfl (p_fld (j := 0) Tryd.underlying66 rfl ⟨_, by rfl⟩ rfl rfl) ?_
      refine ws_h rfl rfl rfl rfl (p_ldA (cs := (List.map u8v x3.k)) Tryd.underlying38 rfl (szL sz38 (by first | rfl | (simp only [List.length_append, List.length_map, List.length_cons, List.length_nil, (show List.length x3.k = 32 from hx3k)]; done) | (simp only [List.length_append, List.length_map, List.length_cons, List.length_nil, List.size_toArray, (show List.length x3.k = 32 from hx3k)]; done))) rfl (fun _ h => rng_at (p := []) (q := ((List.map u8v x3.k) : List Value)) (r := (((List.map u8v x3.v) ++ [.bool x3.dr]) : List Value)) (hb7.ch h (fun h => h)) (by simp only [List.append_assoc, List.cons_append, List.nil_append, List.append_nil]) (by first | rfl | (simp only [List.length_append, List.length_map, List.length_cons, List.length_nil]; done) | (simp only [List.length_append, List.length_map, List.length_cons, List.length_nil, List.size_toArray]; done)))) ?_
      refine ws_e rfl rfl (e_call ent45 rfl rfl (tdrop_made (F := fun k => w.heap.size ≤ k) (hV.mono (fun k _ h => by first | exact h.1 | (have h2 := h.1; show w.heap.size ≤ k; omega))) (fun j hj => by show w.heap.size ≤ j; omega) (hx3k)) ?_)
      rintro _ w7 ⟨v20, o20, rfl, hV20, heq20, hc⟩
      refine ⟨_, rfl, hc, ?_⟩
      have hzw7 := hc.size
      have HC := HC.tr hc
      have hin := hin.no hc
      have hV := hV.ch hc (by first | exact fun _ _ _ h => h | (intro k hk hF ht; have h2 := hF.1; have h3 := hF.2; first | omega | (dsimp only at *; omega)))
      have hM := hM.after hc
      have hb7 := hb7.ch hc (fun h => h)
      have hV20 := hV20.mono (G := fun k => w.heap.size ≤ k ∧ k < w7.heap.size) (fun k h1 h2 => ⟨by first | exact h2 | exact h2.1 | ((try dsimp only at h2); omega), h1⟩)
      refine ws_narrow (S' := fun x => Ch No w7 x) (Ch.refl _ _) (fun x h => hc.tr h) ?_
      refine ws_e rfl rfl (e_call ent80 rfl rfl (rdrop_any (hM.si) (hx3k) (by omega)) ?_)
      rintro _ w8 ⟨A24, lm24, cm24, rfl, hM24, hc⟩
      refine ⟨_, rfl, hc, ?_⟩
      have hzw8 := hc.size
      have HC := HC.tr hc
      have hin := hin.no hc
      have hV := hV.ch hc (by first | exact fun _ _ _ h => h | (intro k hk hF ht; have h2 := hF.1; have h3 := hF.2; first | omega | (dsimp only at *; omega)))
      have hM := hM.after hc
      have hb7 := hb7.ch hc (fun h => h)
      have hV20 := hV20.ch hc (by first | exact fun _ _ _ h => h | (intro k hk hF ht; have h2 := hF.1; have h3 := hF.2; first | omega | (dsimp only at *; omega)))
      have hMl24 := hM24.len
      have hM24 := hM24.mono (G := fun k => w7.heap.size ≤ k ∧ k < w8.heap.size) (fun k h1 h2 => ⟨h2, h1⟩)
      refine ws_narrow (S' := fun x => Ch No w8 x) (Ch.refl _ _) (fun x h => hc.tr h) ?_
      refine ws_p rfl rfl rfl rfl (p_as rfl) ?_
      refine ws_p rfl rfl rfl rfl (p_as rfl) ?_
      refine ws_n ?_
      refine x_in_normal ?_
      refine x_seq ?_
      refine wc_region ?_
      refine wl rfl rfl rfl (p_add rfl rfl (w64 (by omega))) ?_
      refine wl rfl rfl rfl (p_mv rfl) ?_
      refine wl_nil ?_
      refine x_round (e' := [(4, (_)), (5, .slice (_) (_) (_)), (9, .slice Al ll cl), (10, i64 (ll : Int)), (11, i64 ((i + 1) : Int))]) ⟨rfl, rfl, rfl, rfl, rfl, trivial⟩ (by rw [hm0]; omega) ⟨i + 1, _, _, _, _, _, rfl, rfl, (by omega), (by rw [hmk, heq20, heo]; unfold actT; rw [if_pos (by first | assumption | simpa using c1)]), (hV20.mono (fun k _ h => h.1)), (by rw [hmk]; unfold actT; rw [if_pos (by first | assumption | simpa using c1), dropT_items hwf]; exact hM24.mono (fun k _ h => by have := h.1; show w.heap.size ≤ k; omega)), hin, HC⟩
    ·
      refine wc_draw (.st 0 0 (.st 1 0 (.st 2 1 (.st 3 0 (.st 4 1 (.st 6 0 (.st 7 0 (.st 8 1 (.st 9 0 (.st 10 1 (.st 5 2 (.st 11 2 (.st 12 0 (.st 13 0 .nil)))))))))))))) 14 (by kernel_rfl) (by kernel_rfl) (by kernel_rfl) (by repeat (first | with_reducible exact pan_body | with_reducible apply pan_then | with_reducible apply pan_in)) (fun x => Ch No w5.drew x) (Ch.refl _ _) ?_
      obtain ⟨w9, ew9⟩ : ∃ x, x = w5.drew := ⟨_, rfl⟩
      rw [← ew9]
      have hc : Ch No w5 w9 := by rw [ew9]; exact Ch.drew _
      have hszw9 : w9.heap.size = w5.heap.size := by rw [ew9]; rfl
      clear ew9
      have hzw9 := hc.size
      have HC := HC.tr hc
      have hin := hin.no hc
      have hV := hV.ch hc (by first | exact fun _ _ _ h => h | (intro k hk hF ht; have h2 := hF.1; have h3 := hF.2; first | omega | (dsimp only at *; omega)))
      have hM := hM.no hc
      have hb7 := hb7.ch hc (fun h => h)
      have hS : Ch No w9 w9 := Ch.refl _ _
      refine ws_p rfl rfl rfl rfl (p_mv rfl) ?_
      refine ws_p rfl rfl rfl rfl (p_fld (j := 0) Tryd.underlying66 rfl ⟨_, by rfl⟩ rfl rfl) ?_
      refine ws_h rfl rfl rfl rfl (p_ldA (cs := (List.map u8v x3.k)) Tryd.underlying38 rfl (szL sz38 (by first | rfl | (simp only [List.length_append, List.length_map, List.length_cons, List.length_nil, (show List.length x3.k = 32 from hx3k)]; done) | (simp only [List.length_append, List.length_map, List.length_cons, List.length_nil, List.size_toArray, (show List.length x3.k = 32 from hx3k)]; done))) rfl (fun _ h => rng_at (p := []) (q := ((List.map u8v x3.k) : List Value)) (r := (((List.map u8v x3.v) ++ [.bool x3.dr]) : List Value)) (hb7.ch h (fun h => h)) (by simp only [List.append_assoc, List.cons_append, List.nil_append, List.append_nil]) (by first | rfl | (simp only [List.length_append, List.length_map, List.length_cons, List.length_nil]; done) | (simp only [List.length_append, List.length_map, List.length_cons, List.length_nil, List.size_toArray]; done)))) ?_
      refine ws_p rfl rfl rfl rfl (p_fld (j := 32) Tryd.underlying66 rfl ⟨_, by rfl⟩ rfl rfl) ?_
      refine ws_h rfl rfl rfl rfl (p_ldA (cs := (List.map u8v x3.v)) Tryd.underlying38 rfl (szL sz38 (by first | rfl | (simp only [List.length_append, List.length_map, List.length_cons, List.length_nil, (show List.length x3.v = 32 from hx3v)]; done) | (simp only [List.length_append, List.length_map, List.length_cons, List.length_nil, List.size_toArray, (show List.length x3.v = 32 from hx3v)]; done))) rfl (fun _ h => rng_at (p := ((List.map u8v x3.k) : List Value)) (q := ((List.map u8v x3.v) : List Value)) (r := ([.bool x3.dr] : List Value)) (hb7.ch h (fun h => h)) (by simp only [List.append_assoc, List.cons_append, List.nil_append, List.append_nil]) (by first | rfl | (simp only [List.length_append, List.length_map, List.length_cons, List.length_nil, (show List.length x3.k = 32 from hx3k)]; done) | (simp only [List.length_append, List.length_map, List.length_cons, List.length_nil, List.size_toArray, (show List.length x3.k = 32 from hx3k)]; done)))) ?_
      refine ws_p rfl rfl rfl rfl (p_mv rfl) ?_
      refine ws_p rfl rfl rfl rfl (p_fld (j := 0) Tryd.underlying66 rfl ⟨_, by rfl⟩ rfl rfl) ?_
      refine ws_h rfl rfl rfl rfl (p_ldA (cs := (List.map u8v x3.k)) Tryd.underlying38 rfl (szL sz38 (by first | rfl | (simp only [List.length_append, List.length_map, List.length_cons, List.length_nil, (show List.length x3.k = 32 from hx3k)]; done) | (simp only [List.length_append, List.length_map, List.length_cons, List.length_nil, List.size_toArray, (show List.length x3.k = 32 from hx3k)]; done))) rfl (fun _ h => rng_at (p := []) (q := ((List.map u8v x3.k) : List Value)) (r := (((List.map u8v x3.v) ++ [.bool x3.dr]) : List Value)) (hb7.ch h (fun h => h)) (by simp only [List.append_assoc, List.cons_append, List.nil_append, List.append_nil]) (by first | rfl | (simp only [List.length_append, List.length_map, List.length_cons, List.length_nil]; done) | (simp only [List.length_append, List.length_map, List.length_cons, List.length_nil, List.size_toArray]; done)))) ?_
      refine ws_p rfl rfl rfl rfl (p_fld (j := 32) Tryd.underlying66 rfl ⟨_, by rfl⟩ rfl rfl) ?_
      refine ws_h rfl rfl rfl rfl (p_ldA (cs := (List.map u8v x3.v)) Tryd.underlying38 rfl (szL sz38 (by first | rfl | (simp only [List.length_append, List.length_map, List.length_cons, List.length_nil, (show List.length x3.v = 32 from hx3v)]; done) | (simp only [List.length_append, List.length_map, List.length_cons, List.length_nil, List.size_toArray, (show List.length x3.v = 32 from hx3v)]; done))) rfl (fun _ h => rng_at (p := ((List.map u8v x3.k) : List Value)) (q := ((List.map u8v x3.v) : List Value)) (r := ([.bool x3.dr] : List Value)) (hb7.ch h (fun h => h)) (by simp only [List.append_assoc, List.cons_append, List.nil_append, List.append_nil]) (by first | rfl | (simp only [List.length_append, List.length_map, List.length_cons, List.length_nil, (show List.length x3.k = 32 from hx3k)]; done) | (simp only [List.length_append, List.length_map, List.length_cons, List.length_nil, List.size_toArray, (show List.length x3.k = 32 from hx3k)]; done)))) ?_
      refine ws_e rfl rfl (e_call ent44 rfl rfl (tput_made (F := fun k => w.heap.size ≤ k) (hV.mono (fun k _ h => by first | exact h.1 | (have h2 := h.1; show w.heap.size ≤ k; omega))) (fun j hj => by show w.heap.size ≤ j; omega) (hx3k) (hx3v) (hcnt)) ?_)
      rintro _ w10 ⟨v30, t30, rfl, hV30, heq30, hc⟩
      refine ⟨_, rfl, hc, ?_⟩
      have hzw10 := hc.size
      have HC := HC.tr hc
      have hin := hin.no hc
      have hV := hV.ch hc (by first | exact fun _ _ _ h => h | (intro k hk hF ht; have h2 := hF.1; have h3 := hF.2; first | omega | (dsimp only at *; omega)))
      have hM := hM.after hc
      have hb7 := hb7.ch hc (fun h => h)
      have hV30 := hV30.mono (G := fun k => w.heap.size ≤ k ∧ k < w10.heap.size) (fun k h1 h2 => ⟨by first | exact h2 | exact h2.1 | ((try dsimp only at h2); omega), h1⟩)
      refine ws_narrow (S' := fun x => Ch No w10 x) (Ch.refl _ _) (fun x h => hc.tr h) ?_
      refine ws_e rfl rfl (e_call ent52 rfl rfl (rput_any (hM.si) (hx3k) (hx3v) (by omega)) ?_)
      rintro _ w11 ⟨A36, lm36, cm36, rfl, hM36, hc⟩
      refine ⟨_, rfl, hc, ?_⟩
      have hzw11 := hc.size
      have HC := HC.tr hc
      have hin := hin.no hc
      have hV := hV.ch hc (by first | exact fun _ _ _ h => h | (intro k hk hF ht; have h2 := hF.1; have h3 := hF.2; first | omega | (dsimp only at *; omega)))
      have hM := hM.after hc
      have hb7 := hb7.ch hc (fun h => h)
      have hV30 := hV30.ch hc (by first | exact fun _ _ _ h => h | (intro k hk hF ht; have h2 := hF.1; have h3 := hF.2; first | omega | (dsimp only at *; omega)))
      have hMl36 := hM36.len
      have hM36 := hM36.mono (G := fun k => w10.heap.size ≤ k ∧ k < w11.heap.size) (fun k h1 h2 => ⟨h2, h1⟩)
      refine ws_narrow (S' := fun x => Ch No w11 x) (Ch.refl _ _) (fun x h => hc.tr h) ?_
      refine ws_p rfl rfl rfl rfl (p_as rfl) ?_
      refine ws_p rfl rfl rfl rfl (p_as rfl) ?_
      refine ws_n ?_
      refine x_in_normal ?_
      refine x_seq ?_
      refine wc_region ?_
      refine wl rfl rfl rfl (p_add rfl rfl (w64 (by omega))) ?_
      refine wl rfl rfl rfl (p_mv rfl) ?_
      refine wl_nil ?_
      refine x_round (e' := [(4, (_)), (5, .slice (_) (_) (_)), (9, .slice Al ll cl), (10, i64 (ll : Int)), (11, i64 ((i + 1) : Int))]) ⟨rfl, rfl, rfl, rfl, rfl, trivial⟩ (by rw [hm0]; omega) ⟨i + 1, _, _, _, _, _, rfl, rfl, (by omega), (by rw [hmk, heq30, heo]; unfold actT; rw [if_neg (by first | assumption | simpa using c1)]), (hV30.mono (fun k _ h => h.1)), (by rw [hmk]; unfold actT; rw [if_neg (by first | assumption | simpa using c1), putT_items hwf (by assumption) (by assumption)]; exact hM36.mono (fun k _ h => by have := h.1; show w.heap.size ≤ k; omega)), hin, HC⟩
  ·
    have c0 := of_decide_eq_false c0
    refine wc_exit ?_
    refine x_then_exit ?_
    refine x_then_exit ?_
    refine x_in_here ?_
    refine x_seq ?_
    refine wc_seq ?_
    refine wc_region ?_
    refine wl rfl rfl rfl (p_mv rfl) ?_
    refine wl rfl rfl rfl (p_mv rfl) ?_
    refine wl rfl rfl rfl (p_as rfl) ?_
    refine wl rfl rfl rfl (p_as rfl) ?_
    refine wl_nil ?_
    refine x_seq ?_
    refine wc_ret ?_
    refine fin_run ((res2 rfl rfl rfl)) ?_
    rw [List.take_of_length_le (by omega)] at heo hM
    exact ⟨v, o, Am, lm, cm, rfl, hV.mono (fun k _ h => h.1), heo, hM.mono (fun k _ h => h.1), HC⟩

set_option maxHeartbeats 1000000 in
set_option maxRecDepth 20000 in
theorem alls_some {w : World} {m yl gB g : Nat} {t : LT} {J Jx : List (List UInt8 × List UInt8) → World → Prop} (hX : ∀ xs A, J xs A → Blk A gB 25 #[ndp g] ∧ Blk A g 41 [ndp t.adr, .bool true].toArray ∧ LAt 156 A t) (hJ : ∀ xs A B, J xs A → Ch No A B → J xs B) (hJx : ∀ xs A B, Jx xs A → Ch No A B → Jx xs B) (hY : ∀ pre x Wq, (fun (pre : List (List UInt8 × List UInt8)) (x : List UInt8 × List UInt8) => ∃ q, t.er.items = pre ++ x :: q) pre x → J pre Wq → YieldAt Fence.wide m Tryd.prog yl ((fun x : List UInt8 × List UInt8 => #[hv x.1, hv x.2]) x) Wq fun ed W' => (ed = .returned (.bool true) ∧ J (pre ++ [x]) W') ∨ (ed = .returned (.bool false) ∧ Jx (pre ++ [x]) W')) (hJ0 : J [] w) :
    Calls Tryd.prog 97 #[.func (.yield yl) #[] #[], .pointer (some ⟨gB, 0, none⟩)] w fun e w' => e = .returned (.tuple #[]) ∧ ((∃ xs, xs = t.er.items ∧ J xs w') ∨ ∃ xs, True ∧ Jx xs w') := by
  have hJp := hJ0
  obtain ⟨hBn, hbg, hXt⟩ := hX _ _ hJ0
  have HC : Ch No w w := Ch.refl _ _
  refine enter' (args := [.func (.yield yl) #[] #[], .pointer (some ⟨gB, 0, none⟩)]) (n := 11) Tryd.func97 rfl rfl rfl ?_
  refine wc_seq ?_
  refine wc_region ?_
  refine wl rfl rfl rfl (p_ld Tryd.underlying25 rfl rfl (ld (hBn.cell rfl))) ?_
  refine wle rfl (e_call ent81 rfl rfl (is_made (o := some t) hbg) ?_)
  rintro _ w1 ⟨rfl, hc⟩
  refine ⟨_, rfl, ?_⟩
  have hzw1 := hc.size
  have hJp := hJ _ _ _ hJp hc
  have hBn := hBn.ch hc (fun h => h)
  have hbg := hbg.ch hc (fun h => h)
  refine wl_nil ?_
  refine x_seq ?_
  refine wc_yes rfl (rfl) ?_
  refine wc_region ?_
  refine wl rfl rfl rfl (p_ld Tryd.underlying25 rfl rfl (ld (hBn.cell rfl))) ?_
  refine wl rfl rfl rfl (p_nck rfl) ?_
  refine wl rfl rfl rfl (p_fld (j := 0) Tryd.underlying41 rfl ⟨_, by rfl⟩ rfl rfl) ?_
  refine wl rfl rfl rfl (p_ld Tryd.underlying39 rfl rfl (ld (cell_at (p := []) (v := (ndp t.adr : Value)) (r := ([.bool true] : List Value)) hbg (by simp only [List.append_assoc, List.cons_append, List.nil_append, List.append_nil]) (by first | rfl | (simp only [List.length_append, List.length_map, List.length_cons, List.length_nil]; done) | (simp only [List.length_append, List.length_map, List.length_cons, List.length_nil, List.size_toArray]; done))))) ?_
  refine wl rfl rfl rfl (p_mv rfl) ?_
  refine wle rfl (e_call ent98 rfl rfl (each_any t (pre := []) (fun xs A h => (hX xs A h).2.2) hJ hJx (fun p x q h => ⟨q, h⟩) hY hJp) ?_)
  rintro _ w2 (⟨rfl, hJp⟩ | ⟨rfl, q, hJq⟩)
  ·
    refine ⟨_, rfl, ?_⟩
    refine wl_nil ?_
    refine fin_run_n ((res0 rfl)) ?_
    exact ⟨rfl, .inl ⟨_, rfl, hJp⟩⟩
  ·
    refine ⟨_, rfl, ?_⟩
    refine wl_nil ?_
    refine fin_run_n ((res0 rfl)) ?_
    exact ⟨rfl, .inr ⟨_, trivial, hJq⟩⟩

set_option maxHeartbeats 1000000 in
set_option maxRecDepth 20000 in
theorem alls_none {w : World} {m yl gB g : Nat} {J Jx : List (List UInt8 × List UInt8) → World → Prop} (hX : ∀ xs A, J xs A → Blk A gB 25 #[ndp g] ∧ Blk A g 41 [.pointer none, .bool true].toArray) (hJ : ∀ xs A B, J xs A → Ch No A B → J xs B) (hJx : ∀ xs A B, Jx xs A → Ch No A B → Jx xs B) (hJ0 : J [] w) :
    Calls Tryd.prog 97 #[.func (.yield yl) #[] #[], .pointer (some ⟨gB, 0, none⟩)] w fun e w' => e = .returned (.tuple #[]) ∧ ((∃ xs, xs = ([] : List (List UInt8 × List UInt8)) ∧ J xs w') ∨ ∃ xs, True ∧ Jx xs w') := by
  have hJp := hJ0
  obtain ⟨hBn, hbg⟩ := hX _ _ hJ0
  have HC : Ch No w w := Ch.refl _ _
  refine enter' (args := [.func (.yield yl) #[] #[], .pointer (some ⟨gB, 0, none⟩)]) (n := 11) Tryd.func97 rfl rfl rfl ?_
  refine wc_seq ?_
  refine wc_region ?_
  refine wl rfl rfl rfl (p_ld Tryd.underlying25 rfl rfl (ld (hBn.cell rfl))) ?_
  refine wle rfl (e_call ent81 rfl rfl (is_made (o := none) hbg) ?_)
  rintro _ w1 ⟨rfl, hc⟩
  refine ⟨_, rfl, ?_⟩
  have hzw1 := hc.size
  have hJp := hJ _ _ _ hJp hc
  have hBn := hBn.ch hc (fun h => h)
  have hbg := hbg.ch hc (fun h => h)
  refine wl_nil ?_
  refine x_seq ?_
  refine wc_yes rfl (rfl) ?_
  refine wc_region ?_
  refine wl rfl rfl rfl (p_ld Tryd.underlying25 rfl rfl (ld (hBn.cell rfl))) ?_
  refine wl rfl rfl rfl (p_nck rfl) ?_
  refine wl rfl rfl rfl (p_fld (j := 0) Tryd.underlying41 rfl ⟨_, by rfl⟩ rfl rfl) ?_
  refine wl rfl rfl rfl (p_ld Tryd.underlying39 rfl rfl (ld (cell_at (p := []) (v := (.pointer none : Value)) (r := ([.bool true] : List Value)) hbg (by simp only [List.append_assoc, List.cons_append, List.nil_append, List.append_nil]) (by first | rfl | (simp only [List.length_append, List.length_map, List.length_cons, List.length_nil]; done) | (simp only [List.length_append, List.length_map, List.length_cons, List.length_nil, List.size_toArray]; done))))) ?_
  refine wl rfl rfl rfl (p_mv rfl) ?_
  refine wle rfl (e_call ent98 rfl rfl (each_nil) ?_)
  rintro _ w2 ⟨rfl, hc⟩
  refine ⟨_, rfl, ?_⟩
  have hzw2 := hc.size
  have hJp := hJ _ _ _ hJp hc
  have hBn := hBn.ch hc (fun h => h)
  have hbg := hbg.ch hc (fun h => h)
  refine wl_nil ?_
  refine fin_run_n ((res0 rfl)) ?_
  exact ⟨rfl, .inl ⟨_, rfl, hJp⟩⟩

set_option maxHeartbeats 1000000 in
set_option maxRecDepth 20000 in
theorem all_ptr {w : World} {g : Nat}  :
    Calls Tryd.prog 69 #[ndp g] w fun e w' => ∃ g1, e = .returned (.func (.func 97) #[] #[.pointer (some ⟨g1, 0, none⟩)]) ∧ w.heap.size ≤ g1 ∧ Blk w' g1 25 #[ndp g] ∧ Ch No w w' := by
  have HC : Ch No w w := Ch.refl _ _
  refine enter' (args := [ndp g]) (n := 4) Tryd.func69 rfl rfl rfl ?_
  refine wc_seq ?_
  refine wc_region ?_
  refine wle rfl (e_box (cs := #[_]) rfl rfl rfl (fun w1 g1 hg1 hb1 hc hsz1 => ?_))
  have hzw1 := hc.size
  have HC := HC.tr hc
  have hge1 : w.heap.size ≤ g1 := by have := HC.size; omega
  refine wl rfl rfl rfl (p_as rfl) ?_
  refine wl_nil ?_
  refine x_seq ?_
  refine wc_seq ?_
  refine wc_region ?_
  refine wl rfl rfl rfl (p_mkf rfl) ?_
  refine wl rfl rfl rfl (p_as rfl) ?_
  refine wl_nil ?_
  refine x_seq ?_
  refine wc_ret ?_
  refine fin_run ((res1 rfl rfl)) ?_
  exact ⟨g1, rfl, hge1, hb1, HC⟩

set_option maxHeartbeats 1000000 in
set_option maxRecDepth 20000 in
theorem items_some {w : World} {g : Nat} {t : LT} {n : Int} (hbg : Blk w g 41 [ndp t.adr, .bool true].toArray) (hXt : LAt 156 w t) (hcn : t.er.cnt ≤ 1000) :
    Calls Tryd.prog 48 #[ndp g, i64 n] w fun e w' => ∃ A l c ys, e = .returned (.tuple #[.slice A l c, .bool true]) ∧ RI w' (fun k => w.heap.size ≤ k) 81 eIT A l c ys ∧ ys = (if n < 0 then t.er.items else t.er.items.take n.toNat) ∧ Ch No w w' := by
  have hltg := hbg.lt
  have hok := hXt.ok
  have htl := hXt.lt
  have hitl : t.er.items.length ≤ 1000 := by rw [Tr.items_cnt]; exact hcn
  have HC : Ch No w w := Ch.refl _ _
  refine enterM (args := [ndp g, i64 n]) (n := 28) Tryd.func48 rfl rfl rfl ?_
  refine wc_seq ?_
  refine wc_region ?_
  have hltg := hbg.lt
  refine wle rfl (e_box (cs := #[_]) rfl rfl rfl (fun w1 g3 hg3 hb3 hc hsz3 => ?_))
  have hzw1 := hc.size
  have HC := HC.tr hc
  have hbg := hbg.ch hc (fun h => h)
  have hXt := hXt.ch hc (by first | exact fun _ _ h => h | (intro a ha ht; have h2 := htl a ha; first | omega | (dsimp only at *; omega)))
  have hge3 : w.heap.size ≤ g3 := by have := HC.size; omega
  have neg_3 : g < g3 := by omega
  refine wl rfl rfl rfl (p_as rfl) ?_
  refine wl rfl rfl rfl (p_as rfl) ?_
  refine wl_nil ?_
  refine x_seq ?_
  refine wc_seq ?_
  refine wc_region ?_
  refine wl rfl rfl rfl (p_mv rfl) ?_
  refine wle rfl (e_call ent69 rfl rfl (all_ptr (g := g)) ?_)
  rintro _ w2 ⟨g11, rfl, hgB11, hBn, hc⟩
  refine ⟨_, rfl, ?_⟩
  have hzw2 := hc.size
  have HC := HC.tr hc
  have hbg := hbg.ch hc (fun h => h)
  have hXt := hXt.ch hc (by first | exact fun _ _ h => h | (intro a ha ht; have h2 := htl a ha; first | omega | (dsimp only at *; omega)))
  have hb3 := hb3.ch hc (fun h => h)
  refine wl rfl rfl rfl (p_as rfl) ?_
  refine wl_nil ?_
  refine x_seq ?_
  refine wc_seq ?_
  refine wc_seq ?_
  refine wc_region ?_
  refine wl rfl rfl rfl (p_mv rfl) ?_
  refine wl rfl rfl rfl (p_eqFN rfl rfl Tryd.underlying121) ?_
  refine wl_nil ?_
  refine x_seq ?_
  refine wc_no rfl (rfl) ?_
  refine wc_skip ?_
  refine x_seq ?_
  refine wc_seq ?_
  refine wc_region ?_
  have hltg := hbg.lt
  have hltg3 := hb3.lt
  have hltg11 := hBn.lt
  refine wle rfl (e_alloc (cs := #[.slice none 0 0]) rfl (by rfl) rfl (fun w3 g7 hg7 hb7 hc hsz7 => ?_))
  have hzw3 := hc.size
  have HC := HC.tr hc
  have hbg := hbg.ch hc (fun h => h)
  have hXt := hXt.ch hc (by first | exact fun _ _ h => h | (intro a ha ht; have h2 := htl a ha; first | omega | (dsimp only at *; omega)))
  have hb3 := hb3.ch hc (fun h => h)
  have hBn := hBn.ch hc (fun h => h)
  have hge7 : w.heap.size ≤ g7 := by have := HC.size; omega
  have neg_7 : g < g7 := by omega
  have neg3_7 : g3 < g7 := by omega
  have neg11_7 : g11 < g7 := by omega
  refine wl_nil ?_
  refine x_seq ?_
  refine wc_seq ?_
  refine wc_seq ?_
  refine wc_region ?_
  refine wl rfl rfl rfl (p_mv rfl) ?_
  refine wl_nil ?_
  refine x_seq ?_
  refine wc_block ?_
  obtain ⟨n0, hn0⟩ : ∃ z, z = w3.heap.size + 2 := ⟨_, rfl⟩
  have hn0w : w.heap.size + 2 ≤ n0 := by have := HC.size; omega
  have hM : RI w3 (fun k => n0 ≤ k) 81 eIT none 0 0 [] := RI.nil _ _ _ _
  have hltg3 := hb3.lt
  have hltg7 := hb7.lt
  have hltg11 := hBn.lt
  have hltg := hbg.lt
  have hz0 := HC.size
  refine wc_rangeS (m := 0) rfl (enters_of Tryd.func97 (by kernel_rfl) rfl) (fun x : List UInt8 × List UInt8 => #[hv x.1, hv x.2]) (fun _ => rfl) (fun (pre : List (List UInt8 × List UInt8)) (x : List UInt8 × List UInt8) => ∃ q, t.er.items = pre ++ x :: q) (fun xs => xs = t.er.items) (fun _ => True) (fun W => Blk W g11 25 #[ndp g] ∧ Blk W g 41 [ndp t.adr, .bool true].toArray ∧ LAt 156 W t) ?hseq (fun xs W => ∃ A : Option Addr, ∃ l : Nat, ∃ c : Nat, (n < 0 ∨ (xs.length : Int) ≤ n) ∧ (Blk W g3 3 #[i64 n]) ∧ (Blk W g7 27 #[.slice A l c]) ∧ (RI W (fun k => n0 ≤ k) 81 eIT A l c xs) ∧ (Blk W g11 25 #[ndp g]) ∧ (Blk W g 41 [ndp t.adr, .bool true].toArray) ∧ (LAt 156 W t) ∧ (Ch No w W)) (fun c xs W => c = (Code.exit 0) ∧ ∃ A : Option Addr, ∃ l : Nat, ∃ c : Nat, ∃ ys : List (List UInt8 × List UInt8), (ys = (if n < 0 then t.er.items else t.er.items.take n.toNat)) ∧ (Blk W g7 27 #[.slice A l c]) ∧ (RI W (fun k => n0 ≤ k) 81 eIT A l c ys) ∧ (Ch No w W)) ?hI ?hIx ?hIl ?hIxl ?hXI ?h0 ?hround ?hdone ?hstop
  case hseq =>
    intro l J Jx W hcW hsW hJ hJx hXJ hY hJ0
    exact (alls_some (fun xs A h => hXJ xs A h) hJ hJx hY hJ0).mono (fun e w' h => ⟨⟨_, h.1⟩, h.2⟩)
  case hI =>
    rintro xs A B ⟨A, l, c, hle, hb3, hb7, hM, hBn, hbg, hXt, HC⟩ hc
    have hzB := hc.size
    have HC := HC.tr hc
    have hb3 := hb3.ch hc (fun h => h)
    have hb7 := hb7.ch hc (fun h => h)
    have hM := hM.no hc
    have hBn := hBn.ch hc (fun h => h)
    have hbg := hbg.ch hc (fun h => h)
    have hXt := hXt.ch hc (by first | exact fun _ _ h => h | (intro a ha ht; have h2 := htl a ha; first | omega | (dsimp only at *; omega)))
    exact ⟨A, l, c, hle, hb3, hb7, hM, hBn, hbg, hXt, HC⟩
  case hIx =>
    rintro c xs A B ⟨hcx, A, l, c, ys, hys, hb7, hM, HC⟩ hc
    have hzB := hc.size
    have HC := HC.tr hc
    have hb7 := hb7.ch hc (fun h => h)
    have hM := hM.no hc
    exact ⟨hcx, A, l, c, ys, hys, hb7, hM, HC⟩
  case hIl =>
    rintro xs A B ⟨A, l, c, hle, hb3, hb7, hM, hBn, hbg, hXt, HC⟩ hc
    have hzB := hc.size
    have HC := HC.trans hc (fun _ _ h => h) (fun k hk ht => absurd ht (by omega))
    have hb3 := hb3.ch hc (by omega)
    have hb7 := hb7.ch hc (by omega)
    have hM := hM.ch hc (by intro k hz hk ht; first | omega | (dsimp only at *; omega))
    have hBn := hBn.ch hc (by omega)
    have hbg := hbg.ch hc (by omega)
    have hXt := hXt.ch hc (by first | exact fun _ _ h => h | (intro a ha ht; have h2 := htl a ha; first | omega | (dsimp only at *; omega)))
    exact ⟨A, l, c, hle, hb3, hb7, hM, hBn, hbg, hXt, HC⟩
  case hIxl =>
    rintro c xs A B ⟨hcx, A, l, c, ys, hys, hb7, hM, HC⟩ hc
    have hzB := hc.size
    have HC := HC.trans hc (fun _ _ h => h) (fun k hk ht => absurd ht (by omega))
    have hb7 := hb7.ch hc (by omega)
    have hM := hM.ch hc (by intro k hz hk ht; first | omega | (dsimp only at *; omega))
    exact ⟨hcx, A, l, c, ys, hys, hb7, hM, HC⟩
  case hXI =>
    rintro xs W ⟨A, l, c, hle, hb3, hb7, hM, hBn, hbg, hXt, HC⟩
    exact ⟨hBn, hbg, hXt⟩
  case h0 =>
    intro W hc hs
    have hzW := hc.size
    have HC := HC.tr hc
    have hb3 := hb3.ch hc (fun h => h)
    have hb7 := hb7.ch hc (fun h => h)
    have hM := hM.no hc
    have hBn := hBn.ch hc (fun h => h)
    have hbg := hbg.ch hc (fun h => h)
    have hXt := hXt.ch hc (by first | exact fun _ _ h => h | (intro a ha ht; have h2 := htl a ha; first | omega | (dsimp only at *; omega)))
    exact ⟨none, 0, 0, (by simp; omega), hb3, hb7, (hM.mono (fun k _ h => by first | exact h | exact h.1)), hBn, hbg, hXt, HC⟩
  case hround =>
    intro l pre x W hl hD hsz hI a F
    subst hl
    obtain ⟨A, l, c, hle, hb3, hb7, hM, hBn, hbg, hXt, HC⟩ := hI
    have hzW := HC.size
    have hD : ∃ q, t.er.items = pre ++ x :: q := hD
    obtain ⟨q, hq⟩ := hD
    obtain ⟨hx1, hx2⟩ := Tr.items_len hok x (by rw [hq]; simp)
    have hMl := hM.len
    have hpl : pre.length + 1 ≤ (t.er.items).length := by rw [hq]; simp; try omega
    refine (?_ : WCi _ _ _ _ _ _ _ _) _ (F.hand2 rfl rfl)
    have hB : Ch (fun k => k ≠ w3.heap.size + 1 ∧ k ≠ w3.heap.size) W W := Ch.refl _ _
    refine wci_seq ?_
    refine wci_region ?_
    have hltg3 := hb3.lt
    have hltg7 := hb7.lt
    have hltg11 := hBn.lt
    have hltg := hbg.lt
    refine wlie rfl (by repeat (first | with_reducible exact no_stop | with_reducible exact no_false | with_reducible apply no_then | with_reducible apply no_in)) (e_alloc (cs := ((List.replicate 32 (0 : UInt8)).map u8v).toArray) rfl (by rfl) rfl (fun w4 g8 hg8 hb8 hc hsz8 => ?_))
    have hzw4 := hc.size
    have HC := HC.tr hc
    have hB := hB.tr hc
    have hb3 := hb3.ch hc (fun h => h)
    have hb7 := hb7.ch hc (fun h => h)
    have hM := hM.after hc
    have hBn := hBn.ch hc (fun h => h)
    have hbg := hbg.ch hc (fun h => h)
    have hXt := hXt.ch hc (by first | exact fun _ _ h => h | (intro a ha ht; have h2 := htl a ha; first | omega | (dsimp only at *; omega)))
    have hge8 : w.heap.size ≤ g8 := by have := HC.size; omega
    have neg3_8 : g3 < g8 := by omega
    have neg7_8 : g7 < g8 := by omega
    have neg11_8 : g11 < g8 := by omega
    have neg_8 : g < g8 := by omega
    refine wlie rfl (by repeat (first | with_reducible exact no_stop | with_reducible exact no_false | with_reducible apply no_then | with_reducible apply no_in)) (e_stW (vs := List.map u8v x.1) (szL sz38 (by rw [List.length_map]; exact hx1)) (oneL one_u8 _) rfl rfl hb8 (by simp only [List.size_toArray, List.length_map]; first | done | exact ((List.length_replicate ..)).trans (hx1).symm) (fun w5 hb8 hc hsz => ?_))
    have hzw5 := hc.size
    have HC := HC.trans hc (fun _ _ h => h) (fun k hk ht => absurd ht (by omega))
    have hB := hB.trans hc (fun _ _ h => h) (fun k hk ht => by first | omega | (dsimp only at *; omega))
    have hb3 := hb3.ch hc (by omega)
    have hb7 := hb7.ch hc (by omega)
    have hM := hM.ch hc (by intro k hz hk ht; first | omega | (dsimp only at *; omega))
    have hBn := hBn.ch hc (by omega)
    have hbg := hbg.ch hc (by omega)
    have hXt := hXt.ch hc (by first | exact fun _ _ h => h | (intro a ha ht; have h2 := htl a ha; first | omega | (dsimp only at *; omega)))
    refine wli_nil ?_
    refine xi_seq ?_
    refine wci_region ?_
    have hltg3 := hb3.lt
    have hltg7 := hb7.lt
    have hltg11 := hBn.lt
    have hltg := hbg.lt
    have hltg8 := hb8.lt
    refine wlie rfl (by repeat (first | with_reducible exact no_stop | with_reducible exact no_false | with_reducible apply no_then | with_reducible apply no_in)) (e_alloc (cs := ((List.replicate 32 (0 : UInt8)).map u8v).toArray) rfl (by rfl) rfl (fun w6 g9 hg9 hb9 hc hsz9 => ?_))
    have hzw6 := hc.size
    have HC := HC.tr hc
    have hB := hB.tr hc
    have hb3 := hb3.ch hc (fun h => h)
    have hb7 := hb7.ch hc (fun h => h)
    have hM := hM.after hc
    have hBn := hBn.ch hc (fun h => h)
    have hbg := hbg.ch hc (fun h => h)
    have hXt := hXt.ch hc (by first | exact fun _ _ h => h | (intro a ha ht; have h2 := htl a ha; first | omega | (dsimp only at *; omega)))
    have hb8 := hb8.ch hc (fun h => h)
    have hge9 : w.heap.size ≤ g9 := by have := HC.size; omega
    have neg3_9 : g3 < g9 := by omega
    have neg7_9 : g7 < g9 := by omega
    have neg11_9 : g11 < g9 := by omega
    have neg_9 : g < g9 := by omega
    have neg8_9 : g8 < g9 := by omega
    refine wlie rfl (by repeat (first | with_reducible exact no_stop | with_reducible exact no_false | with_reducible apply no_then | with_reducible apply no_in)) (e_stW (vs := List.map u8v x.2) (szL sz38 (by rw [List.length_map]; exact hx2)) (oneL one_u8 _) rfl rfl hb9 (by simp only [List.size_toArray, List.length_map]; first | done | exact ((List.length_replicate ..)).trans (hx2).symm) (fun w7 hb9 hc hsz => ?_))
    have hzw7 := hc.size
    have HC := HC.trans hc (fun _ _ h => h) (fun k hk ht => absurd ht (by omega))
    have hB := hB.trans hc (fun _ _ h => h) (fun k hk ht => by first | omega | (dsimp only at *; omega))
    have hb3 := hb3.ch hc (by omega)
    have hb7 := hb7.ch hc (by omega)
    have hM := hM.ch hc (by intro k hz hk ht; first | omega | (dsimp only at *; omega))
    have hBn := hBn.ch hc (by omega)
    have hbg := hbg.ch hc (by omega)
    have hXt := hXt.ch hc (by first | exact fun _ _ h => h | (intro a ha ht; have h2 := htl a ha; first | omega | (dsimp only at *; omega)))
    have hb8 := hb8.ch hc (by omega)
    refine wli_nil ?_
    refine xi_asg hB (fun W2 hc hsW => ?_)
    have hzW2 := hc.size
    have HC := HC.trans hc (fun _ _ h => h) (fun k hk ht => absurd ht (by omega))
    have hb3 := hb3.ch hc (by omega)
    have hb7 := hb7.ch hc (by omega)
    have hM := hM.ch hc (by intro k hz hk ht; first | omega | (dsimp only at *; omega))
    have hBn := hBn.ch hc (by omega)
    have hbg := hbg.ch hc (by omega)
    have hXt := hXt.ch hc (by first | exact fun _ _ h => h | (intro a ha ht; have h2 := htl a ha; first | omega | (dsimp only at *; omega)))
    have hb8 := hb8.ch hc (by omega)
    have hb9 := hb9.ch hc (by omega)
    have hB : Ch (fun k => k ≠ w3.heap.size + 1 ∧ k ≠ w3.heap.size) W2 W2 := Ch.refl _ _
    refine wci_block ?_
    refine wci_seq ?_
    refine wci_seq ?_
    refine wci_region ?_
    refine wli rfl rfl rfl (p_ld Tryd.underlying27 rfl rfl (ld (hb7.cell rfl))) ?_
    refine wli rfl rfl rfl (p_lenS Tryd.underlying27 rfl) ?_
    refine wli rfl rfl rfl (p_ld Tryd.underlying3 rfl rfl (ld (hb3.cell rfl))) ?_
    refine wli rfl rfl rfl (p_eq rfl rfl) ?_
    refine wli_nil ?_
    refine xi_seq ?_
    refine wci_if rfl (fun c1 => ?_) (fun c1 => ?_)
    ·
      have c1 := of_decide_eq_true c1
      refine wci_exit ?_
      refine x_then_exit ?_
      refine x_in_on rfl ?_
      exact wq_stop_exit ⟨rfl, _, _, _, pre, (take_stop hq (by omega)), hb7, (hM.mono (fun k _ h => by first | exact h | exact h.1 | exact h.1.1 | exact h.1.1.1 | exact h.1.1.1.1)), HC⟩ hB
    ·
      have c1 := of_decide_eq_false c1
      refine wci_skip ?_
      refine xi_seq ?_
      refine wci_region ?_
      refine wli rfl rfl rfl (p_ld Tryd.underlying27 rfl rfl (ld (hb7.cell rfl))) ?_
      refine wli rfl rfl rfl (p_ldA (cs := List.map u8v x.1) Tryd.underlying38 rfl (szL sz38 (by rw [List.length_map]; exact hx1)) rfl (fun _ e => e ▸ rngL hb8)) ?_
      refine wli rfl rfl rfl (p_ldA (cs := List.map u8v x.2) Tryd.underlying38 rfl (szL sz38 (by rw [List.length_map]; exact hx2)) rfl (fun _ e => e ▸ rngL hb9)) ?_
      refine wli rfl rfl rfl (p_bldX (vs' := [(.agg ((hx x.1) : List Value).toArray), (.agg ((hx x.2) : List Value).toArray)]) (cs := (((List.map u8v x.1) ++ (List.map u8v x.2)) : List Value)) (cs' := (((hx x.1) ++ (hx x.2)) : List Value)) rfl (by simp only [hv, map_hx hx1, map_hx hx2] <;> rfl) (by simp only [hv, map_hx hx1, map_hx hx2] <;> rfl) (fun _ => by kernel_rfl)) ?_
      have hltg3 := hb3.lt
      have hltg7 := hb7.lt
      have hltg11 := hBn.lt
      have hltg := hbg.lt
      have hltg8 := hb8.lt
      have hltg9 := hb9.lt
      refine wlie rfl (by repeat (first | with_reducible exact no_stop | with_reducible exact no_false | with_reducible apply no_then | with_reducible apply no_in)) (e_bslX (E := 81) (cs := (((List.map u8v x.1) ++ (List.map u8v x.2)) : List Value)) (cs' := (((hx x.1) ++ (hx x.2)) : List Value)) rfl rfl (by simp only [hv, map_hx hx1, map_hx hx2] <;> rfl) (fun _ => by kernel_rfl) (fun w8 g25 hg25 hb25 hc hsz25 => ?_))
      have hzw8 := hc.size
      have HC := HC.tr hc
      have hB := hB.tr hc
      have hb3 := hb3.ch hc (fun h => h)
      have hb7 := hb7.ch hc (fun h => h)
      have hM := hM.after hc
      have hBn := hBn.ch hc (fun h => h)
      have hbg := hbg.ch hc (fun h => h)
      have hXt := hXt.ch hc (by first | exact fun _ _ h => h | (intro a ha ht; have h2 := htl a ha; first | omega | (dsimp only at *; omega)))
      have hb8 := hb8.ch hc (fun h => h)
      have hb9 := hb9.ch hc (fun h => h)
      have hge25 : w.heap.size ≤ g25 := by have := HC.size; omega
      have hS25 := SI.oneA (E := eIT) (x := (x.1, x.2)) hb25 rfl ⟨hx1, hx2⟩
      have hltg3 := hb3.lt
      have hltg7 := hb7.lt
      have hltg11 := hBn.lt
      have hltg := hbg.lt
      have hltg8 := hb8.lt
      have hltg9 := hb9.lt
      refine wlie rfl (by repeat (first | with_reducible exact no_stop | with_reducible exact no_false | with_reducible apply no_then | with_reducible apply no_in)) (e_appI rfl el27 rfl rfl hM (hS25) (by omega) (by intro k hk; first | omega | (dsimp only at *; omega)) (fun w9 A26 c26 hM hc => ?_))
      have hzw9 := hc.size
      have HC := HC.trans hc (fun _ _ h => h) (fun k hk ht => absurd ht (by first | omega | (dsimp only at *; omega)))
      have hB := hB.trans hc (fun _ _ h => h) (fun k hk ht => by first | omega | (dsimp only at *; omega))
      have hb3 := hb3.ch hc (by first | omega | (dsimp only; omega))
      have hb7 := hb7.ch hc (by first | omega | (dsimp only; omega))
      have hBn := hBn.ch hc (by first | omega | (dsimp only; omega))
      have hbg := hbg.ch hc (by first | omega | (dsimp only; omega))
      have hXt := hXt.ch hc (by first | exact fun _ _ h => h | (intro a ha ht; have h2 := htl a ha; first | omega | (dsimp only at *; omega)))
      have hb8 := hb8.ch hc (by first | omega | (dsimp only; omega))
      have hb9 := hb9.ch hc (by first | omega | (dsimp only; omega))
      first | have hS25 := hS25.ch hc (by intro k hk ht; first | omega | (dsimp only at *; omega)) | have hS25 := hS25.chT hc (by intro k hz hk ht; first | omega | (dsimp only at *; omega))
      refine wlie rfl (by repeat (first | with_reducible exact no_stop | with_reducible exact no_false | with_reducible apply no_then | with_reducible apply no_in)) (e_st1 (by rfl) rfl rfl rfl hb7 (fun w10 hb7 hc hsz => ?_))
      have hzw10 := hc.size
      have HC := HC.trans hc (fun _ _ h => h) (fun k hk ht => absurd ht (by omega))
      have hB := hB.trans hc (fun _ _ h => h) (fun k hk ht => by first | omega | (dsimp only at *; omega))
      have hb3 := hb3.ch hc (by omega)
      have hM := hM.ch hc (by intro k hz hk ht; first | omega | (dsimp only at *; omega))
      have hBn := hBn.ch hc (by omega)
      have hbg := hbg.ch hc (by omega)
      have hXt := hXt.ch hc (by first | exact fun _ _ h => h | (intro a ha ht; have h2 := htl a ha; first | omega | (dsimp only at *; omega)))
      have hb8 := hb8.ch hc (by omega)
      have hb9 := hb9.ch hc (by omega)
      first | have hS25 := hS25.ch hc (by intro k hk ht; first | omega | (dsimp only at *; omega)) | have hS25 := hS25.chT hc (by intro k hz hk ht; first | omega | (dsimp only at *; omega))
      refine wli_nil ?_
      refine x_in_normal ?_
      exact wq_stop ⟨_, _, _, (by simp only [List.length_append, List.length_singleton]; omega), hb3, hb7, (hM.mono (fun k _ h => by first | exact h | exact h.1 | exact h.1.1 | exact h.1.1.1 | exact h.1.1.1.1)), hBn, hbg, hXt, HC⟩ hB
  case hdone =>
    rintro xs W a' hS ⟨A, l, c, hle, hb3, hb7, hM, hBn, hbg, hXt, HC⟩ hK F'
    refine wqd_ap ?_ F'
    have hzW := HC.size
    have hys := take_done (n := n) hS hle
    refine xd_in_normal ?_
    refine xd_seq ?_
    refine wcd_seq ?_
    refine wcd_region ?_
    refine wld rfl rfl rfl (p_ld Tryd.underlying27 rfl rfl (ld (hb7.cell rfl))) ?_
    refine wld rfl rfl rfl (p_as rfl) ?_
    refine wld rfl rfl rfl (p_as rfl) ?_
    refine wld_nil ?_
    refine xd_seq ?_
    refine wcd_ret ?_
    refine fin_runM hK (fun w11 hc hsz => ?_)
    have hzw11 := hc.size
    have HC := HC.trans hc (fun _ _ h => h) (fun k hk ht => absurd ht (by omega))
    have hb3 := hb3.ch hc (by omega)
    have hb7 := hb7.ch hc (by omega)
    have hM := hM.ch hc (by intro k hz hk ht; first | omega | (dsimp only at *; omega))
    have hBn := hBn.ch hc (by omega)
    have hbg := hbg.ch hc (by omega)
    have hXt := hXt.ch hc (by first | exact fun _ _ h => h | (intro a ha ht; have h2 := htl a ha; first | omega | (dsimp only at *; omega)))
    refine ⟨_, (res2 rfl rfl rfl), ?_⟩
    exact ⟨_, _, _, _, rfl, hM.mono (fun k _ h => by have h2 : n0 ≤ k := h; show w.heap.size ≤ k; omega), hys, HC⟩
  case hstop =>
    rintro c xs W a' hS ⟨rfl, A, l, c, ys, hys, hb7, hM, HC⟩ hK F'
    refine wp_exit (wqd_ap ?_ F')
    have hzW := HC.size
    refine xd_in_here ?_
    refine xd_seq ?_
    refine wcd_seq ?_
    refine wcd_region ?_
    refine wld rfl rfl rfl (p_ld Tryd.underlying27 rfl rfl (ld (hb7.cell rfl))) ?_
    refine wld rfl rfl rfl (p_as rfl) ?_
    refine wld rfl rfl rfl (p_as rfl) ?_
    refine wld_nil ?_
    refine xd_seq ?_
    refine wcd_ret ?_
    refine fin_runM hK (fun w12 hc hsz => ?_)
    have hzw12 := hc.size
    have HC := HC.trans hc (fun _ _ h => h) (fun k hk ht => absurd ht (by omega))
    have hb7 := hb7.ch hc (by omega)
    have hM := hM.ch hc (by intro k hz hk ht; first | omega | (dsimp only at *; omega))
    refine ⟨_, (res2 rfl rfl rfl), ?_⟩
    exact ⟨_, _, _, _, rfl, hM.mono (fun k _ h => by have h2 : n0 ≤ k := h; show w.heap.size ≤ k; omega), hys, HC⟩

set_option maxHeartbeats 1000000 in
set_option maxRecDepth 20000 in
theorem items_none {w : World} {g : Nat} {n : Int} (hbg : Blk w g 41 [.pointer none, .bool true].toArray) :
    Calls Tryd.prog 48 #[ndp g, i64 n] w fun e w' => ∃ A l c ys, e = .returned (.tuple #[.slice A l c, .bool true]) ∧ RI w' (fun k => w.heap.size ≤ k) 81 eIT A l c ys ∧ ys = (if n < 0 then ([] : List (List UInt8 × List UInt8)) else ([] : List (List UInt8 × List UInt8)).take n.toNat) ∧ Ch No w w' := by
  have hltg := hbg.lt
  have HC : Ch No w w := Ch.refl _ _
  refine enterM (args := [ndp g, i64 n]) (n := 28) Tryd.func48 rfl rfl rfl ?_
  refine wc_seq ?_
  refine wc_region ?_
  have hltg := hbg.lt
  refine wle rfl (e_box (cs := #[_]) rfl rfl rfl (fun w1 g3 hg3 hb3 hc hsz3 => ?_))
  have hzw1 := hc.size
  have HC := HC.tr hc
  have hbg := hbg.ch hc (fun h => h)
  have hge3 : w.heap.size ≤ g3 := by have := HC.size; omega
  have neg_3 : g < g3 := by omega
  refine wl rfl rfl rfl (p_as rfl) ?_
  refine wl rfl rfl rfl (p_as rfl) ?_
  refine wl_nil ?_
  refine x_seq ?_
  refine wc_seq ?_
  refine wc_region ?_
  refine wl rfl rfl rfl (p_mv rfl) ?_
  refine wle rfl (e_call ent69 rfl rfl (all_ptr (g := g)) ?_)
  rintro _ w2 ⟨g11, rfl, hgB11, hBn, hc⟩
  refine ⟨_, rfl, ?_⟩
  have hzw2 := hc.size
  have HC := HC.tr hc
  have hbg := hbg.ch hc (fun h => h)
  have hb3 := hb3.ch hc (fun h => h)
  refine wl rfl rfl rfl (p_as rfl) ?_
  refine wl_nil ?_
  refine x_seq ?_
  refine wc_seq ?_
  refine wc_seq ?_
  refine wc_region ?_
  refine wl rfl rfl rfl (p_mv rfl) ?_
  refine wl rfl rfl rfl (p_eqFN rfl rfl Tryd.underlying121) ?_
  refine wl_nil ?_
  refine x_seq ?_
  refine wc_no rfl (rfl) ?_
  refine wc_skip ?_
  refine x_seq ?_
  refine wc_seq ?_
  refine wc_region ?_
  have hltg := hbg.lt
  have hltg3 := hb3.lt
  have hltg11 := hBn.lt
  refine wle rfl (e_alloc (cs := #[.slice none 0 0]) rfl (by rfl) rfl (fun w3 g7 hg7 hb7 hc hsz7 => ?_))
  have hzw3 := hc.size
  have HC := HC.tr hc
  have hbg := hbg.ch hc (fun h => h)
  have hb3 := hb3.ch hc (fun h => h)
  have hBn := hBn.ch hc (fun h => h)
  have hge7 : w.heap.size ≤ g7 := by have := HC.size; omega
  have neg_7 : g < g7 := by omega
  have neg3_7 : g3 < g7 := by omega
  have neg11_7 : g11 < g7 := by omega
  refine wl_nil ?_
  refine x_seq ?_
  refine wc_seq ?_
  refine wc_seq ?_
  refine wc_region ?_
  refine wl rfl rfl rfl (p_mv rfl) ?_
  refine wl_nil ?_
  refine x_seq ?_
  refine wc_block ?_
  obtain ⟨n0, hn0⟩ : ∃ z, z = w3.heap.size + 2 := ⟨_, rfl⟩
  have hn0w : w.heap.size + 2 ≤ n0 := by have := HC.size; omega
  have hM : RI w3 (fun k => n0 ≤ k) 81 eIT none 0 0 [] := RI.nil _ _ _ _
  have hltg3 := hb3.lt
  have hltg7 := hb7.lt
  have hltg11 := hBn.lt
  have hltg := hbg.lt
  have hz0 := HC.size
  refine wc_rangeS (m := 0) rfl (enters_of Tryd.func97 (by kernel_rfl) rfl) (fun x : List UInt8 × List UInt8 => #[hv x.1, hv x.2]) (fun _ => rfl) (fun (pre : List (List UInt8 × List UInt8)) (x : List UInt8 × List UInt8) => ∃ q, ([] : List (List UInt8 × List UInt8)) = pre ++ x :: q) (fun xs => xs = ([] : List (List UInt8 × List UInt8))) (fun _ => True) (fun W => Blk W g11 25 #[ndp g] ∧ Blk W g 41 [.pointer none, .bool true].toArray) ?hseq (fun xs W => ∃ A : Option Addr, ∃ l : Nat, ∃ c : Nat, (n < 0 ∨ (xs.length : Int) ≤ n) ∧ (Blk W g3 3 #[i64 n]) ∧ (Blk W g7 27 #[.slice A l c]) ∧ (RI W (fun k => n0 ≤ k) 81 eIT A l c xs) ∧ (Blk W g11 25 #[ndp g]) ∧ (Blk W g 41 [.pointer none, .bool true].toArray) ∧ (Ch No w W)) (fun c xs W => c = (Code.exit 0) ∧ ∃ A : Option Addr, ∃ l : Nat, ∃ c : Nat, ∃ ys : List (List UInt8 × List UInt8), (ys = (if n < 0 then ([] : List (List UInt8 × List UInt8)) else ([] : List (List UInt8 × List UInt8)).take n.toNat)) ∧ (Blk W g7 27 #[.slice A l c]) ∧ (RI W (fun k => n0 ≤ k) 81 eIT A l c ys) ∧ (Ch No w W)) ?hI ?hIx ?hIl ?hIxl ?hXI ?h0 ?hround ?hdone ?hstop
  case hseq =>
    intro l J Jx W hcW hsW hJ hJx hXJ hY hJ0
    exact (alls_none (m := 0) (fun xs A h => hXJ xs A h) hJ hJx hJ0).mono (fun e w' h => ⟨⟨_, h.1⟩, h.2⟩)
  case hI =>
    rintro xs A B ⟨A, l, c, hle, hb3, hb7, hM, hBn, hbg, HC⟩ hc
    have hzB := hc.size
    have HC := HC.tr hc
    have hb3 := hb3.ch hc (fun h => h)
    have hb7 := hb7.ch hc (fun h => h)
    have hM := hM.no hc
    have hBn := hBn.ch hc (fun h => h)
    have hbg := hbg.ch hc (fun h => h)
    exact ⟨A, l, c, hle, hb3, hb7, hM, hBn, hbg, HC⟩
  case hIx =>
    rintro c xs A B ⟨hcx, A, l, c, ys, hys, hb7, hM, HC⟩ hc
    have hzB := hc.size
    have HC := HC.tr hc
    have hb7 := hb7.ch hc (fun h => h)
    have hM := hM.no hc
    exact ⟨hcx, A, l, c, ys, hys, hb7, hM, HC⟩
  case hIl =>
    rintro xs A B ⟨A, l, c, hle, hb3, hb7, hM, hBn, hbg, HC⟩ hc
    have hzB := hc.size
    have HC := HC.trans hc (fun _ _ h => h) (fun k hk ht => absurd ht (by omega))
    have hb3 := hb3.ch hc (by omega)
    have hb7 := hb7.ch hc (by omega)
    have hM := hM.ch hc (by intro k hz hk ht; first | omega | (dsimp only at *; omega))
    have hBn := hBn.ch hc (by omega)
    have hbg := hbg.ch hc (by omega)
    exact ⟨A, l, c, hle, hb3, hb7, hM, hBn, hbg, HC⟩
  case hIxl =>
    rintro c xs A B ⟨hcx, A, l, c, ys, hys, hb7, hM, HC⟩ hc
    have hzB := hc.size
    have HC := HC.trans hc (fun _ _ h => h) (fun k hk ht => absurd ht (by omega))
    have hb7 := hb7.ch hc (by omega)
    have hM := hM.ch hc (by intro k hz hk ht; first | omega | (dsimp only at *; omega))
    exact ⟨hcx, A, l, c, ys, hys, hb7, hM, HC⟩
  case hXI =>
    rintro xs W ⟨A, l, c, hle, hb3, hb7, hM, hBn, hbg, HC⟩
    exact ⟨hBn, hbg⟩
  case h0 =>
    intro W hc hs
    have hzW := hc.size
    have HC := HC.tr hc
    have hb3 := hb3.ch hc (fun h => h)
    have hb7 := hb7.ch hc (fun h => h)
    have hM := hM.no hc
    have hBn := hBn.ch hc (fun h => h)
    have hbg := hbg.ch hc (fun h => h)
    exact ⟨none, 0, 0, (by simp; omega), hb3, hb7, (hM.mono (fun k _ h => by first | exact h | exact h.1)), hBn, hbg, HC⟩
  case hround =>
    intro l pre x W hl hD hsz hI a F
    subst hl
    obtain ⟨A, l, c, hle, hb3, hb7, hM, hBn, hbg, HC⟩ := hI
    have hzW := HC.size
    have hD : ∃ q, ([] : List (List UInt8 × List UInt8)) = pre ++ x :: q := hD
    obtain ⟨q, hq⟩ := hD
    have hx1 : x.1.length = 32 := absurd hq (by simp)
    have hx2 : x.2.length = 32 := absurd hq (by simp)
    have hp0 : pre.length ≤ 1000 := absurd hq (by simp)
    have hMl := hM.len
    refine (?_ : WCi _ _ _ _ _ _ _ _) _ (F.hand2 rfl rfl)
    have hB : Ch (fun k => k ≠ w3.heap.size + 1 ∧ k ≠ w3.heap.size) W W := Ch.refl _ _
    refine wci_seq ?_
    refine wci_region ?_
    have hltg3 := hb3.lt
    have hltg7 := hb7.lt
    have hltg11 := hBn.lt
    have hltg := hbg.lt
    refine wlie rfl (by repeat (first | with_reducible exact no_stop | with_reducible exact no_false | with_reducible apply no_then | with_reducible apply no_in)) (e_alloc (cs := ((List.replicate 32 (0 : UInt8)).map u8v).toArray) rfl (by rfl) rfl (fun w4 g8 hg8 hb8 hc hsz8 => ?_))
    have hzw4 := hc.size
    have HC := HC.tr hc
    have hB := hB.tr hc
    have hb3 := hb3.ch hc (fun h => h)
    have hb7 := hb7.ch hc (fun h => h)
    have hM := hM.after hc
    have hBn := hBn.ch hc (fun h => h)
    have hbg := hbg.ch hc (fun h => h)
    have hge8 : w.heap.size ≤ g8 := by have := HC.size; omega
    have neg3_8 : g3 < g8 := by omega
    have neg7_8 : g7 < g8 := by omega
    have neg11_8 : g11 < g8 := by omega
    have neg_8 : g < g8 := by omega
    refine wlie rfl (by repeat (first | with_reducible exact no_stop | with_reducible exact no_false | with_reducible apply no_then | with_reducible apply no_in)) (e_stW (vs := List.map u8v x.1) (szL sz38 (by rw [List.length_map]; exact hx1)) (oneL one_u8 _) rfl rfl hb8 (by simp only [List.size_toArray, List.length_map]; first | done | exact ((List.length_replicate ..)).trans (hx1).symm) (fun w5 hb8 hc hsz => ?_))
    have hzw5 := hc.size
    have HC := HC.trans hc (fun _ _ h => h) (fun k hk ht => absurd ht (by omega))
    have hB := hB.trans hc (fun _ _ h => h) (fun k hk ht => by first | omega | (dsimp only at *; omega))
    have hb3 := hb3.ch hc (by omega)
    have hb7 := hb7.ch hc (by omega)
    have hM := hM.ch hc (by intro k hz hk ht; first | omega | (dsimp only at *; omega))
    have hBn := hBn.ch hc (by omega)
    have hbg := hbg.ch hc (by omega)
    refine wli_nil ?_
    refine xi_seq ?_
    refine wci_region ?_
    have hltg3 := hb3.lt
    have hltg7 := hb7.lt
    have hltg11 := hBn.lt
    have hltg := hbg.lt
    have hltg8 := hb8.lt
    refine wlie rfl (by repeat (first | with_reducible exact no_stop | with_reducible exact no_false | with_reducible apply no_then | with_reducible apply no_in)) (e_alloc (cs := ((List.replicate 32 (0 : UInt8)).map u8v).toArray) rfl (by rfl) rfl (fun w6 g9 hg9 hb9 hc hsz9 => ?_))
    have hzw6 := hc.size
    have HC := HC.tr hc
    have hB := hB.tr hc
    have hb3 := hb3.ch hc (fun h => h)
    have hb7 := hb7.ch hc (fun h => h)
    have hM := hM.after hc
    have hBn := hBn.ch hc (fun h => h)
    have hbg := hbg.ch hc (fun h => h)
    have hb8 := hb8.ch hc (fun h => h)
    have hge9 : w.heap.size ≤ g9 := by have := HC.size; omega
    have neg3_9 : g3 < g9 := by omega
    have neg7_9 : g7 < g9 := by omega
    have neg11_9 : g11 < g9 := by omega
    have neg_9 : g < g9 := by omega
    have neg8_9 : g8 < g9 := by omega
    refine wlie rfl (by repeat (first | with_reducible exact no_stop | with_reducible exact no_false | with_reducible apply no_then | with_reducible apply no_in)) (e_stW (vs := List.map u8v x.2) (szL sz38 (by rw [List.length_map]; exact hx2)) (oneL one_u8 _) rfl rfl hb9 (by simp only [List.size_toArray, List.length_map]; first | done | exact ((List.length_replicate ..)).trans (hx2).symm) (fun w7 hb9 hc hsz => ?_))
    have hzw7 := hc.size
    have HC := HC.trans hc (fun _ _ h => h) (fun k hk ht => absurd ht (by omega))
    have hB := hB.trans hc (fun _ _ h => h) (fun k hk ht => by first | omega | (dsimp only at *; omega))
    have hb3 := hb3.ch hc (by omega)
    have hb7 := hb7.ch hc (by omega)
    have hM := hM.ch hc (by intro k hz hk ht; first | omega | (dsimp only at *; omega))
    have hBn := hBn.ch hc (by omega)
    have hbg := hbg.ch hc (by omega)
    have hb8 := hb8.ch hc (by omega)
    refine wli_nil ?_
    refine xi_asg hB (fun W2 hc hsW => ?_)
    have hzW2 := hc.size
    have HC := HC.trans hc (fun _ _ h => h) (fun k hk ht => absurd ht (by omega))
    have hb3 := hb3.ch hc (by omega)
    have hb7 := hb7.ch hc (by omega)
    have hM := hM.ch hc (by intro k hz hk ht; first | omega | (dsimp only at *; omega))
    have hBn := hBn.ch hc (by omega)
    have hbg := hbg.ch hc (by omega)
    have hb8 := hb8.ch hc (by omega)
    have hb9 := hb9.ch hc (by omega)
    have hB : Ch (fun k => k ≠ w3.heap.size + 1 ∧ k ≠ w3.heap.size) W2 W2 := Ch.refl _ _
    refine wci_block ?_
    refine wci_seq ?_
    refine wci_seq ?_
    refine wci_region ?_
    refine wli rfl rfl rfl (p_ld Tryd.underlying27 rfl rfl (ld (hb7.cell rfl))) ?_
    refine wli rfl rfl rfl (p_lenS Tryd.underlying27 rfl) ?_
    refine wli rfl rfl rfl (p_ld Tryd.underlying3 rfl rfl (ld (hb3.cell rfl))) ?_
    refine wli rfl rfl rfl (p_eq rfl rfl) ?_
    refine wli_nil ?_
    refine xi_seq ?_
    refine wci_if rfl (fun c1 => ?_) (fun c1 => ?_)
    ·
      have c1 := of_decide_eq_true c1
      refine wci_exit ?_
      refine x_then_exit ?_
      refine x_in_on rfl ?_
      exact wq_stop_exit ⟨rfl, _, _, _, pre, (take_stop hq (by omega)), hb7, (hM.mono (fun k _ h => by first | exact h | exact h.1 | exact h.1.1 | exact h.1.1.1 | exact h.1.1.1.1)), HC⟩ hB
    ·
      have c1 := of_decide_eq_false c1
      refine wci_skip ?_
      refine xi_seq ?_
      refine wci_region ?_
      refine wli rfl rfl rfl (p_ld Tryd.underlying27 rfl rfl (ld (hb7.cell rfl))) ?_
      refine wli rfl rfl rfl (p_ldA (cs := List.map u8v x.1) Tryd.underlying38 rfl (szL sz38 (by rw [List.length_map]; exact hx1)) rfl (fun _ e => e ▸ rngL hb8)) ?_
      refine wli rfl rfl rfl (p_ldA (cs := List.map u8v x.2) Tryd.underlying38 rfl (szL sz38 (by rw [List.length_map]; exact hx2)) rfl (fun _ e => e ▸ rngL hb9)) ?_
      refine wli rfl rfl rfl (p_bldX (vs' := [(.agg ((hx x.1) : List Value).toArray), (.agg ((hx x.2) : List Value).toArray)]) (cs := (((List.map u8v x.1) ++ (List.map u8v x.2)) : List Value)) (cs' := (((hx x.1) ++ (hx x.2)) : List Value)) rfl (by simp only [hv, map_hx hx1, map_hx hx2] <;> rfl) (by simp only [hv, map_hx hx1, map_hx hx2] <;> rfl) (fun _ => by kernel_rfl)) ?_
      have hltg3 := hb3.lt
      have hltg7 := hb7.lt
      have hltg11 := hBn.lt
      have hltg := hbg.lt
      have hltg8 := hb8.lt
      have hltg9 := hb9.lt
      refine wlie rfl (by repeat (first | with_reducible exact no_stop | with_reducible exact no_false | with_reducible apply no_then | with_reducible apply no_in)) (e_bslX (E := 81) (cs := (((List.map u8v x.1) ++ (List.map u8v x.2)) : List Value)) (cs' := (((hx x.1) ++ (hx x.2)) : List Value)) rfl rfl (by simp only [hv, map_hx hx1, map_hx hx2] <;> rfl) (fun _ => by kernel_rfl) (fun w8 g25 hg25 hb25 hc hsz25 => ?_))
      have hzw8 := hc.size
      have HC := HC.tr hc
      have hB := hB.tr hc
      have hb3 := hb3.ch hc (fun h => h)
      have hb7 := hb7.ch hc (fun h => h)
      have hM := hM.after hc
      have hBn := hBn.ch hc (fun h => h)
      have hbg := hbg.ch hc (fun h => h)
      have hb8 := hb8.ch hc (fun h => h)
      have hb9 := hb9.ch hc (fun h => h)
      have hge25 : w.heap.size ≤ g25 := by have := HC.size; omega
      have hS25 := SI.oneA (E := eIT) (x := (x.1, x.2)) hb25 rfl ⟨hx1, hx2⟩
      have hltg3 := hb3.lt
      have hltg7 := hb7.lt
      have hltg11 := hBn.lt
      have hltg := hbg.lt
      have hltg8 := hb8.lt
      have hltg9 := hb9.lt
      refine wlie rfl (by repeat (first | with_reducible exact no_stop | with_reducible exact no_false | with_reducible apply no_then | with_reducible apply no_in)) (e_appI rfl el27 rfl rfl hM (hS25) (by omega) (by intro k hk; first | omega | (dsimp only at *; omega)) (fun w9 A26 c26 hM hc => ?_))
      have hzw9 := hc.size
      have HC := HC.trans hc (fun _ _ h => h) (fun k hk ht => absurd ht (by first | omega | (dsimp only at *; omega)))
      have hB := hB.trans hc (fun _ _ h => h) (fun k hk ht => by first | omega | (dsimp only at *; omega))
      have hb3 := hb3.ch hc (by first | omega | (dsimp only; omega))
      have hb7 := hb7.ch hc (by first | omega | (dsimp only; omega))
      have hBn := hBn.ch hc (by first | omega | (dsimp only; omega))
      have hbg := hbg.ch hc (by first | omega | (dsimp only; omega))
      have hb8 := hb8.ch hc (by first | omega | (dsimp only; omega))
      have hb9 := hb9.ch hc (by first | omega | (dsimp only; omega))
      first | have hS25 := hS25.ch hc (by intro k hk ht; first | omega | (dsimp only at *; omega)) | have hS25 := hS25.chT hc (by intro k hz hk ht; first | omega | (dsimp only at *; omega))
      refine wlie rfl (by repeat (first | with_reducible exact no_stop | with_reducible exact no_false | with_reducible apply no_then | with_reducible apply no_in)) (e_st1 (by rfl) rfl rfl rfl hb7 (fun w10 hb7 hc hsz => ?_))
      have hzw10 := hc.size
      have HC := HC.trans hc (fun _ _ h => h) (fun k hk ht => absurd ht (by omega))
      have hB := hB.trans hc (fun _ _ h => h) (fun k hk ht => by first | omega | (dsimp only at *; omega))
      have hb3 := hb3.ch hc (by omega)
      have hM := hM.ch hc (by intro k hz hk ht; first | omega | (dsimp only at *; omega))
      have hBn := hBn.ch hc (by omega)
      have hbg := hbg.ch hc (by omega)
      have hb8 := hb8.ch hc (by omega)
      have hb9 := hb9.ch hc (by omega)
      first | have hS25 := hS25.ch hc (by intro k hk ht; first | omega | (dsimp only at *; omega)) | have hS25 := hS25.chT hc (by intro k hz hk ht; first | omega | (dsimp only at *; omega))
      refine wli_nil ?_
      refine x_in_normal ?_
      exact wq_stop ⟨_, _, _, (by simp only [List.length_append, List.length_singleton]; omega), hb3, hb7, (hM.mono (fun k _ h => by first | exact h | exact h.1 | exact h.1.1 | exact h.1.1.1 | exact h.1.1.1.1)), hBn, hbg, HC⟩ hB
  case hdone =>
    rintro xs W a' hS ⟨A, l, c, hle, hb3, hb7, hM, hBn, hbg, HC⟩ hK F'
    refine wqd_ap ?_ F'
    have hzW := HC.size
    have hys := take_done (n := n) hS hle
    refine xd_in_normal ?_
    refine xd_seq ?_
    refine wcd_seq ?_
    refine wcd_region ?_
    refine wld rfl rfl rfl (p_ld Tryd.underlying27 rfl rfl (ld (hb7.cell rfl))) ?_
    refine wld rfl rfl rfl (p_as rfl) ?_
    refine wld rfl rfl rfl (p_as rfl) ?_
    refine wld_nil ?_
    refine xd_seq ?_
    refine wcd_ret ?_
    refine fin_runM hK (fun w11 hc hsz => ?_)
    have hzw11 := hc.size
    have HC := HC.trans hc (fun _ _ h => h) (fun k hk ht => absurd ht (by omega))
    have hb3 := hb3.ch hc (by omega)
    have hb7 := hb7.ch hc (by omega)
    have hM := hM.ch hc (by intro k hz hk ht; first | omega | (dsimp only at *; omega))
    have hBn := hBn.ch hc (by omega)
    have hbg := hbg.ch hc (by omega)
    refine ⟨_, (res2 rfl rfl rfl), ?_⟩
    exact ⟨_, _, _, _, rfl, hM.mono (fun k _ h => by have h2 : n0 ≤ k := h; show w.heap.size ≤ k; omega), hys, HC⟩
  case hstop =>
    rintro c xs W a' hS ⟨rfl, A, l, c, ys, hys, hb7, hM, HC⟩ hK F'
    refine wp_exit (wqd_ap ?_ F')
    have hzW := HC.size
    refine xd_in_here ?_
    refine xd_seq ?_
    refine wcd_seq ?_
    refine wcd_region ?_
    refine wld rfl rfl rfl (p_ld Tryd.underlying27 rfl rfl (ld (hb7.cell rfl))) ?_
    refine wld rfl rfl rfl (p_as rfl) ?_
    refine wld rfl rfl rfl (p_as rfl) ?_
    refine wld_nil ?_
    refine xd_seq ?_
    refine wcd_ret ?_
    refine fin_runM hK (fun w12 hc hsz => ?_)
    have hzw12 := hc.size
    have HC := HC.trans hc (fun _ _ h => h) (fun k hk ht => absurd ht (by omega))
    have hb7 := hb7.ch hc (by omega)
    have hM := hM.ch hc (by intro k hz hk ht; first | omega | (dsimp only at *; omega))
    refine ⟨_, (res2 rfl rfl rfl), ?_⟩
    exact ⟨_, _, _, _, rfl, hM.mono (fun k _ h => by have h2 : n0 ≤ k := h; show w.heap.size ≤ k; omega), hys, HC⟩

theorem items_made {w : World} {v : Value} {o : Option LT} {F : Nat → Prop} {n : Int} (hV : TR 41 156 F w v o) (hcn : cntT (eo o) ≤ 1000) : Calls Tryd.prog 48 #[v, i64 n] w fun e w' => ∃ A l c ys, e = .returned (.tuple #[.slice A l c, .bool true]) ∧ RI w' (fun k => w.heap.size ≤ k) 81 eIT A l c ys ∧ ys = (if n < 0 then itemsT (eo o) else (itemsT (eo o)).take n.toNat) ∧ Ch No w w' := by
  obtain ⟨g, rfl, hFg, hbg, hT⟩ := hV.opn
  cases o with
  | none => exact items_none hbg
  | some t => exact items_some hbg (hT t rfl).1 hcn

theorem putsI_cnt : ∀ {m : List (H8 × H8)} {o : Option Tr}, cntT (putsI o m) ≤ cntT o + m.length
  | [], o => Nat.le_refl _
  | x :: m, o => by
    have h1 := putsI_cnt (m := m) (o := putT o x.1 x.2)
    have h2 := putT_cnt (o := o) (k := x.1) (v := x.2)
    show cntT (putsI (putT o x.1 x.2) m) ≤ _
    rw [List.length_cons]; omega

set_option maxHeartbeats 2000000 in
set_option maxRecDepth 20000 in
theorem trieOrder_walk {w : World}  {Al : Option Addr} {ll cl : Nat} {Fl : Nat → Prop} {l : List AC} {Ae : Option Addr} {le ce : Nat} {Fe : Nat → Prop} {q : List AC} (hin : SI w Fl eAC Al ll cl l) (hex : SI w Fe eAC Ae le ce q) (hrnd : Sl w (fun k => k = 0) u32v (some ⟨0, 0, none⟩) 64 64 rk) :
    Calls Tryd.prog 9 #[.slice Al ll cl, .slice Ae le ce] w fun e w' => e = .returned (.bool true) ∧ Ch No w w' := by
  have hn0 : 0 < w.heap.size := hrnd.size (by omega) rfl
  have hn1 := hn0
  have hinl := hin.len
  have hok := hin.ok
  have hexl := hex.len
  have hoke := hex.ok
  have hin := hin.old
  have hex := hex.old
  have HC : Ch No w w := Ch.refl _ _
  refine enter' (args := [.slice Al ll cl, .slice Ae le ce]) (n := 134) Tryd.func9 rfl rfl rfl ?_
  refine wc_seq ?_
  refine wc_region ?_
  refine wl rfl rfl rfl (p_as rfl) ?_
  refine wl_nil ?_
  refine x_seq ?_
  refine wc_seq ?_
  refine wc_seq ?_
  refine wc_region ?_
  refine wl rfl rfl rfl (p_mv rfl) ?_
  refine wl rfl rfl rfl (p_lenS Tryd.underlying64 rfl) ?_
  refine wl rfl rfl rfl (p_gt rfl rfl) ?_
  refine wl rfl rfl rfl (p_mv rfl) ?_
  refine wl_split (d := 23) rfl (fun q23 => ?_) (fun q23 => ?_)
  ·
    have q23 := of_decide_eq_true q23
    refine wl_s (gd_ rfl rfl rfl rfl rfl rfl) rfl rfl ?_
    refine wl_s (gd_ rfl rfl rfl rfl rfl rfl) rfl rfl ?_
    refine wl_s (gd_ rfl rfl rfl rfl rfl rfl) rfl rfl ?_
    refine wl rfl rfl rfl (p_pickT rfl rfl) ?_
    refine wl_nil ?_
    refine x_seq ?_
    refine wc_yes rfl (rfl) ?_
    refine wc_seq ?_
    refine wc_region ?_
    refine wle rfl (e_call ent40 rfl rfl (lives11_any hrnd) ?_)
    rintro _ w1 ⟨rfl, hc⟩
    refine ⟨_, rfl, ?_⟩
    have hzw1 := hc.size
    have HC := HC.tr hc
    have hin := hin.no hc
    have hex := hex.no hc
    have hrnd := hrnd.no hc
    refine wl rfl rfl rfl (p_as rfl) ?_
    refine wl_nil ?_
    refine x_seq ?_
    refine wc_ret ?_
    refine x_then_ret ?_
    refine fin_run ((res1 rfl rfl)) ?_
    exact ⟨rfl, HC⟩
  ·
    have q23 := of_decide_eq_false q23
    refine wl_g (gd_ rfl rfl rfl rfl rfl rfl) rfl rfl (p_mv rfl) ?_
    refine wl_g (gd_ rfl rfl rfl rfl rfl rfl) rfl rfl (p_lenS Tryd.underlying64 rfl) ?_
    refine wl_g (gd_ rfl rfl rfl rfl rfl rfl) rfl rfl (p_gt rfl rfl) ?_
    refine wl rfl rfl rfl (p_pickF rfl rfl) ?_
    refine wl_nil ?_
    refine x_seq ?_
    refine wc_if rfl (fun c0 => ?_) (fun c0 => ?_)
    ·
      have c0 := of_decide_eq_true c0
      refine wc_seq ?_
      refine wc_region ?_
      refine wle rfl (e_call ent40 rfl rfl (lives11_any hrnd) ?_)
      rintro _ w2 ⟨rfl, hc⟩
      refine ⟨_, rfl, ?_⟩
      have hzw2 := hc.size
      have HC := HC.tr hc
      have hin := hin.no hc
      have hex := hex.no hc
      have hrnd := hrnd.no hc
      refine wl rfl rfl rfl (p_as rfl) ?_
      refine wl_nil ?_
      refine x_seq ?_
      refine wc_ret ?_
      refine x_then_ret ?_
      refine fin_run ((res1 rfl rfl)) ?_
      exact ⟨rfl, HC⟩
    ·
      have c0 := of_decide_eq_false c0
      refine wc_skip ?_
      refine x_seq ?_
      refine wc_seq ?_
      refine wc_region ?_
      refine wl rfl rfl rfl (p_mv rfl) ?_
      refine wle rfl (e_call ent41 rfl rfl (made11_any hin (by omega)) ?_)
      rintro _ w3 ⟨v31, o31, A31, lm31, cm31, rfl, hV31, heo31, hM31, hc⟩
      refine ⟨_, rfl, ?_⟩
      have hzw3 := hc.size
      have HC := HC.tr hc
      have hin := hin.no hc
      have hex := hex.no hc
      have hrnd := hrnd.no hc
      obtain ⟨hwf, hmc⟩ := mkA_all hok
      have hml31 : lm31 = cntT (mkA l) := by rw [← itemsT_cnt]; exact hM31.len.symm
      have hwfo31 : WFO (eo o31) := by rw [heo31]; exact hwf
      have hcn31 : cntT (eo o31) ≤ 40 := by rw [heo31]; omega
      have hV31 := hV31.mono (G := fun k => w.heap.size ≤ k ∧ k < w3.heap.size) (fun k h1 h2 => ⟨by first | exact h2 | exact h2.1 | ((try dsimp only at h2); omega), h1⟩)
      have hM31 := hM31.mono (G := fun k => w.heap.size ≤ k ∧ k < w3.heap.size) (fun k h1 h2 => ⟨by first | exact h2 | exact h2.1 | ((try dsimp only at h2); omega), h1⟩)
      refine wl rfl rfl rfl (p_mv rfl) ?_
      refine wl rfl rfl rfl (p_ext rfl rfl) ?_
      refine wl rfl rfl rfl (p_ext rfl rfl) ?_
      refine wl rfl rfl rfl (p_as rfl) ?_
      refine wl rfl rfl rfl (p_as rfl) ?_
      refine wl_nil ?_
      refine x_seq ?_
      refine wc_seq ?_
      refine wc_region ?_
      refine wl rfl rfl rfl (p_mv rfl) ?_
      refine wle rfl (e_call ent46 rfl rfl (troot_made hV31 hrnd) ?_)
      rintro _ w4 ⟨rfl, hc, hFil, hRB, hRF⟩
      refine ⟨_, rfl, ?_⟩
      have hR0 := hV31.ot.out hrnd (by omega)
      have hRo : ∀ k, k < w.heap.size → k ∈ adsO o31 → False := fun k h1 h2 => absurd (hRF k h2).1 (by omega)
      have hzw4 := hc.size
      have HC := HC.trans hc (fun _ _ h => h) (fun k hk ht => absurd (hRF k ht).1 (by omega))
      have hin := hin.ch hc (fun k hk ht => hRo k hk ht)
      have hex := hex.ch hc (fun k hk ht => hRo k hk ht)
      have hrnd := hrnd.ch hc (fun k hk ht => hR0 (hk ▸ ht))
      have hV31 := hV31.fil hc hRB hFil
      have hM31 := hM31.ty hc (by decide) hRB
      refine wl rfl rfl rfl (p_mv rfl) ?_
      refine wle rfl (e_call ent43 rfl rfl (tlen_made hV31) ?_)
      rintro _ w5 ⟨rfl, hc⟩
      refine ⟨_, rfl, ?_⟩
      have hzw5 := hc.size
      have HC := HC.tr hc
      have hin := hin.no hc
      have hex := hex.no hc
      have hrnd := hrnd.no hc
      have hV31 := hV31.ch hc (by first | exact fun _ _ _ h => h | (intro k hk hF ht; have h2 := hF.1; have h3 := hF.2; first | omega | (dsimp only at *; omega)))
      have hM31 := hM31.after hc
      refine wle rfl (e_alloc (cs := ((List.replicate 32 (0 : UInt8)).map u8v).toArray) rfl (by rfl) rfl (fun w6 g7 hg7 hb7 hc hsz7 => ?_))
      have hzw6 := hc.size
      have HC := HC.tr hc
      have hin := hin.no hc
      have hex := hex.no hc
      have hrnd := hrnd.no hc
      have hV31 := hV31.ch hc (by first | exact fun _ _ _ h => h | (intro k hk hF ht; have h2 := hF.1; have h3 := hF.2; first | omega | (dsimp only at *; omega)))
      have hM31 := hM31.after hc
      have hge7 : w.heap.size ≤ g7 := by have := HC.size; omega
      refine wle rfl (e_stW (vs := List.map u8v (rootT (eo o31))) (szL sz38 (by rw [List.length_map]; exact rootT_len)) (oneL one_u8 _) rfl rfl hb7 (by simp only [List.size_toArray, List.length_map]; first | done | exact ((List.length_replicate ..)).trans (rootT_len).symm) (fun w7 hb7 hc hsz => ?_))
      have hzw7 := hc.size
      have HC := HC.trans hc (fun _ _ h => h) (fun k hk ht => absurd ht (by omega))
      first | have hin := hin.ch hc (by intro k hk ht; first | omega | (dsimp only at *; omega)) | have hin := hin.chT hc (by intro k hz hk ht; first | omega | (dsimp only at *; omega))
      first | have hex := hex.ch hc (by intro k hk ht; first | omega | (dsimp only at *; omega)) | have hex := hex.chT hc (by intro k hz hk ht; first | omega | (dsimp only at *; omega))
      first | have hrnd := hrnd.ch hc (by intro k hk ht; first | omega | (dsimp only at *; omega)) | have hrnd := hrnd.chT hc (by intro k hz hk ht; first | omega | (dsimp only at *; omega))
      have hV31 := hV31.ch hc (by first | exact fun _ _ _ h => h | (intro k hk hF ht; have h2 := hF.1; have h3 := hF.2; first | omega | (dsimp only at *; omega)))
      have hM31 := hM31.ch hc (by intro k hz hk ht; first | omega | (dsimp only at *; omega))
      refine wl rfl rfl rfl (p_as rfl) ?_
      refine wl_nil ?_
      refine x_seq ?_
      refine wc_seq ?_
      refine wc_region ?_
      refine wl rfl rfl rfl (p_mv rfl) ?_
      refine wle rfl (e_call ent48 rfl rfl (items_made (n := -1) hV31 (by omega)) ?_)
      rintro _ w8 ⟨A40, l40, c40, ys40, rfl, hY40, hys40, hc⟩
      refine ⟨_, rfl, ?_⟩
      have hzw8 := hc.size
      have HC := HC.tr hc
      have hin := hin.no hc
      have hex := hex.no hc
      have hrnd := hrnd.no hc
      have hV31 := hV31.ch hc (by first | exact fun _ _ _ h => h | (intro k hk hF ht; have h2 := hF.1; have h3 := hF.2; first | omega | (dsimp only at *; omega)))
      have hM31 := hM31.after hc
      have hb7 := hb7.ch hc (fun h => h)
      have hyl40 := hY40.len
      have hY40 := hY40.mono (G := fun k => w7.heap.size ≤ k ∧ k < w8.heap.size) (fun k h1 h2 => ⟨h2, h1⟩)
      rw [if_pos (by omega)] at hys40
      have hl40 : l40 = cntT (eo o31) := by rw [← hyl40, hys40, itemsT_cnt]
      refine wl rfl rfl rfl (p_mv rfl) ?_
      refine wl rfl rfl rfl (p_ext rfl rfl) ?_
      refine wl rfl rfl rfl (p_ext rfl rfl) ?_
      refine wl rfl rfl rfl (p_as rfl) ?_
      refine wl rfl rfl rfl (p_as rfl) ?_
      refine wl_nil ?_
      refine x_seq ?_
      refine wc_seq ?_
      refine wc_seq ?_
      refine wc_region ?_
      refine wl rfl rfl rfl (p_mv rfl) ?_
      refine wl rfl rfl rfl (p_not rfl) ?_
      refine wl rfl rfl rfl (p_mv rfl) ?_
      refine wl_g (gd_ rfl rfl rfl rfl rfl rfl) rfl rfl (p_mv rfl) ?_
      refine wl_g (gd_ rfl rfl rfl rfl rfl rfl) rfl rfl (p_lenS Tryd.underlying27 rfl) ?_
      refine wl_g (gd_ rfl rfl rfl rfl rfl rfl) rfl rfl (p_mv rfl) ?_
      refine wl_g (gd_ rfl rfl rfl rfl rfl rfl) rfl rfl (p_ne rfl rfl) ?_
      refine wl rfl rfl rfl (p_pickF rfl rfl) ?_
      refine wl_nil ?_
      refine x_seq ?_
      refine wc_no rfl (by simp [hl40]) ?_
      refine wc_skip ?_
      refine x_seq ?_
      refine wc_seq ?_
      refine wc_region ?_
      refine wle rfl (e_call ent51 rfl rfl (new_any) ?_)
      rintro _ w9 ⟨v51, rfl, hV51, hc⟩
      refine ⟨_, rfl, ?_⟩
      have hzw9 := hc.size
      have HC := HC.tr hc
      have hin := hin.no hc
      have hex := hex.no hc
      have hrnd := hrnd.no hc
      have hV31 := hV31.ch hc (by first | exact fun _ _ _ h => h | (intro k hk hF ht; have h2 := hF.1; have h3 := hF.2; first | omega | (dsimp only at *; omega)))
      have hM31 := hM31.after hc
      have hb7 := hb7.ch hc (fun h => h)
      have hY40 := hY40.after hc
      have hV51 := hV51.mono (G := fun k => w8.heap.size ≤ k ∧ k < w9.heap.size) (fun k h1 h2 => ⟨h2, h1⟩)
      refine wl rfl rfl rfl (p_as rfl) ?_
      refine wl_nil ?_
      refine x_seq ?_
      refine wc_seq ?_
      refine wc_seq ?_
      refine wc_region ?_
      refine wl rfl rfl rfl (p_mv rfl) ?_
      refine wl rfl rfl rfl (p_lenS Tryd.underlying27 rfl) ?_
      refine wl rfl rfl rfl (p_sub rfl rfl (w64 (by omega))) ?_
      refine wl rfl rfl rfl (p_as rfl) ?_
      refine wl_nil ?_
      refine x_seq ?_
      refine wc_block ?_
      refine wc_loop (e' := [(1, .slice Ae le ce), (5, v31), (7, .pointer (some ⟨g7, 0, none⟩)), (8, i64 (cntT (eo o31) : Int)), (9, .slice A40 l40 c40), (11, (_)), (12, i64 (((l40) : Int) - 1))]) (fun mz ez uz => ∃ j : Nat, ∃ v : Value, ∃ o : Option LT, mz = j ∧ ez = [(1, .slice Ae le ce), (5, v31), (7, .pointer (some ⟨g7, 0, none⟩)), (8, i64 (cntT (eo o31) : Int)), (9, .slice A40 l40 c40), (11, v), (12, i64 ((j : Int) - 1))] ∧ (j ≤ l40) ∧ (eo o = putsI none (ys40.drop j).reverse) ∧ (TR 41 156 (fun k => w.heap.size ≤ k) uz v o) ∧ (TR 41 156 (fun k => w.heap.size ≤ k) uz v31 o31) ∧ (RI uz (fun k => w.heap.size ≤ k) 81 eIT A40 l40 c40 ys40) ∧ (SI uz (fun k => k < w.heap.size) eAC Ae le ce q) ∧ (Blk uz g7 38 (List.map u8v (rootT (eo o31))).toArray) ∧ (Sl uz (fun k => k = 0) u32v (some ⟨0, 0, none⟩) 64 64 rk) ∧ (w.heap.size ≤ g7) ∧ (Ch No w uz))
        ⟨rfl, rfl, rfl, rfl, rfl, rfl, rfl, trivial⟩ ⟨l40, _, none, rfl, rfl, (Nat.le_refl _), (by rw [List.drop_of_length_le (by omega)]; rfl), (hV51.mono (fun k _ h => by first | exact h.1 | exact h | exact h.1.1 | (have := h.1; show w.heap.size ≤ k; omega))), (hV31.mono (fun k _ h => by first | exact h.1 | exact h | exact h.1.1 | (have := h.1; show w.heap.size ≤ k; omega))), (hY40.mono (fun k _ h => by first | exact h.1 | exact h | exact h.1.1 | (have := h.1; show w.heap.size ≤ k; omega))), hex, hb7, hrnd, (by omega), HC⟩ ?_
      rintro m0 e w10 ⟨j, v, o, hm0, rfl, hj, heu, hV, hV31, hY40, hex, hb7, hrnd, hg7w, HC⟩
      have hzw10 := HC.size
      have hV := hV.mono (G := fun k => w.heap.size ≤ k ∧ k < w10.heap.size) (fun k h1 h2 => ⟨by first | exact h2 | exact h2.1 | ((try dsimp only at h2); omega), h1⟩)
      have hV31 := hV31.mono (G := fun k => w.heap.size ≤ k ∧ k < w10.heap.size) (fun k h1 h2 => ⟨by first | exact h2 | exact h2.1 | ((try dsimp only at h2); omega), h1⟩)
      have hY40 := hY40.mono (G := fun k => w.heap.size ≤ k ∧ k < w10.heap.size) (fun k h1 h2 => ⟨by first | exact h2 | exact h2.1 | ((try dsimp only at h2); omega), h1⟩)
      refine wc_seq ?_
      refine wc_seq ?_
      refine wc_region ?_
      refine wl rfl rfl rfl (p_mv rfl) ?_
      refine wl rfl rfl rfl (p_ge rfl rfl) ?_
      refine wl_nil ?_
      refine x_seq ?_
      refine wc_if rfl (fun c2 => ?_) (fun c2 => ?_)
      ·
        have c2 := of_decide_eq_true c2
        obtain ⟨p, hp⟩ : ∃ p : Nat, (j : Int) - 1 = (p : Int) := ⟨j - 1, by omega⟩
        rw [hp]
        have hpj : p + 1 = j := by omega
        refine wc_skip ?_
        refine x_seq ?_
        refine wc_seq ?_
        refine wc_block ?_
        refine wc_draw (.st 0 0 (.st 1 0 (.st 2 0 (.st 3 0 (.st 4 0 (.st 5 1 (.st 6 0 (.st 7 0 (.st 8 0 (.st 9 0 (.st 10 1 (.st 11 2 (.st 12 0 .nil))))))))))))) 13 (by kernel_rfl) (by kernel_rfl) (by kernel_rfl) (by repeat (first | with_reducible exact pan_body | with_reducible apply pan_then | with_reducible apply pan_in)) (fun x => Ch No w10.drew x) (Ch.refl _ _) ?_
        obtain ⟨w11, ew11⟩ : ∃ x, x = w10.drew := ⟨_, rfl⟩
        rw [← ew11]
        have hc : Ch No w10 w11 := by rw [ew11]; exact Ch.drew _
        have hszw11 : w11.heap.size = w10.heap.size := by rw [ew11]; rfl
        clear ew11
        have hzw11 := hc.size
        have HC := HC.tr hc
        have hex := hex.no hc
        have hV := hV.ch hc (by first | exact fun _ _ _ h => h | (intro k hk hF ht; have h2 := hF.1; have h3 := hF.2; first | omega | (dsimp only at *; omega)))
        have hV31 := hV31.ch hc (by first | exact fun _ _ _ h => h | (intro k hk hF ht; have h2 := hF.1; have h3 := hF.2; first | omega | (dsimp only at *; omega)))
        have hY40 := hY40.no hc
        have hb7 := hb7.ch hc (fun h => h)
        have hrnd := hrnd.no hc
        have hS : Ch No w11 w11 := Ch.refl _ _
        refine ws_p rfl rfl rfl rfl (p_mv rfl) ?_
        refine ws_p rfl rfl rfl rfl (p_mv rfl) ?_
        refine ws_p rfl rfl rfl rfl (p_mv rfl) ?_
        obtain ⟨b12, o12, hA12, hF12, hr12⟩ := (hY40.si).opn (i := p) (d := (zeroH, zeroH)) (by omega)
        have hok12 := (hY40.si).okAt (i := p) (d := (zeroH, zeroH)) (by omega)
        obtain ⟨x12, ex12⟩ : ∃ x, x = List.getD ys40 (p) (zeroH, zeroH) := ⟨_, rfl⟩
        rw [← ex12] at hr12 hok12
        obtain ⟨hx12k, hx12v⟩ := hok12
        have hr12 : w11.rangeAt b12 (o12 + p * 64) (((List.map u8v x12.1) ++ (List.map u8v x12.2)) : List Value) := hr12
        refine ws_p rfl rfl rfl rfl (p_ixS (j := p * 64) Tryd.underlying27 sz81 rfl hA12 rfl (by omega) (by omega) (congrArg (· * 64) (Int.toNat_natCast _))) ?_
        refine ws_p rfl rfl rfl rfl (p_fld (j := 0) Tryd.underlying81 rfl ⟨_, by rfl⟩ rfl rfl) ?_
        refine ws_h rfl rfl rfl rfl (p_ldA (cs := (List.map u8v x12.1)) Tryd.underlying38 rfl (szL sz38 (by first | rfl | (simp only [List.length_append, List.length_map, List.length_cons, List.length_nil, (show List.length x12.1 = 32 from hx12k)]; done) | (simp only [List.length_append, List.length_map, List.length_cons, List.length_nil, List.size_toArray, (show List.length x12.1 = 32 from hx12k)]; done))) rfl (fun _ h => rng_sub (q := (List.map u8v x12.1)) (p := []) (r := ((List.map u8v x12.2) : List Value)) (rng_no hr12 h) (by first | rfl | simp only [List.append_assoc, List.cons_append, List.nil_append, List.append_nil]) rfl)) ?_
        refine ws_p rfl rfl rfl rfl (p_mv rfl) ?_
        refine ws_p rfl rfl rfl rfl (p_mv rfl) ?_
        obtain ⟨b13, o13, hA13, hF13, hr13⟩ := (hY40.si).opn (i := p) (d := (zeroH, zeroH)) (by omega)
        have hok13 := (hY40.si).okAt (i := p) (d := (zeroH, zeroH)) (by omega)
        obtain ⟨x13, ex13⟩ : ∃ x, x = List.getD ys40 (p) (zeroH, zeroH) := ⟨_, rfl⟩
        rw [← ex13] at hr13 hok13
        obtain ⟨hx13k, hx13v⟩ := hok13
        have hr13 : w11.rangeAt b13 (o13 + p * 64) (((List.map u8v x13.1) ++ (List.map u8v x13.2)) : List Value) := hr13
        refine ws_p rfl rfl rfl rfl (p_ixS (j := p * 64) Tryd.underlying27 sz81 rfl hA13 rfl (by omega) (by omega) (congrArg (· * 64) (Int.toNat_natCast _))) ?_
        refine ws_p rfl rfl rfl rfl (p_fld (j := 32) Tryd.underlying81 rfl ⟨_, by rfl⟩ rfl rfl) ?_
        refine ws_h rfl rfl rfl rfl (p_ldA (cs := (List.map u8v x13.2)) Tryd.underlying38 rfl (szL sz38 (by first | rfl | (simp only [List.length_append, List.length_map, List.length_cons, List.length_nil, (show List.length x13.2 = 32 from hx13v)]; done) | (simp only [List.length_append, List.length_map, List.length_cons, List.length_nil, List.size_toArray, (show List.length x13.2 = 32 from hx13v)]; done))) rfl (fun _ h => rng_sub (q := (List.map u8v x13.2)) (p := ((List.map u8v x13.1) : List Value)) (r := []) (rng_no hr13 h) (by first | rfl | simp only [List.append_assoc, List.cons_append, List.nil_append, List.append_nil]) (by first | rfl | (simp only [List.length_append, List.length_map, List.length_cons, List.length_nil, (show List.length x13.1 = 32 from hx13k)]; done) | (simp only [List.length_append, List.length_map, List.length_cons, List.length_nil, List.size_toArray, (show List.length x13.1 = 32 from hx13k)]; done)))) ?_
        have hcnI : cntT (eo o) + 1 ≤ 4611686018427387904 := by have h1 := putsI_cnt (m := (ys40.drop j).reverse) (o := none); rw [← heu, List.length_reverse, List.length_drop, show cntT none = 0 from rfl] at h1; omega
        refine ws_e rfl rfl (e_call ent44 rfl rfl (tput_made (F := fun k => w.heap.size ≤ k) (hV.mono (fun k _ h => by first | exact h.1 | (have h2 := h.1; show w.heap.size ≤ k; omega))) (fun j hj => by show w.heap.size ≤ j; omega) (hx12k) (hx13v) (hcnI)) ?_)
        rintro _ w14 ⟨v70, t70, rfl, hV70, heq70, hc⟩
        refine ⟨_, rfl, hc, ?_⟩
        have hzw14 := hc.size
        have HC := HC.tr hc
        have hex := hex.no hc
        have hV := hV.ch hc (by first | exact fun _ _ _ h => h | (intro k hk hF ht; have h2 := hF.1; have h3 := hF.2; first | omega | (dsimp only at *; omega)))
        have hV31 := hV31.ch hc (by first | exact fun _ _ _ h => h | (intro k hk hF ht; have h2 := hF.1; have h3 := hF.2; first | omega | (dsimp only at *; omega)))
        have hY40 := hY40.after hc
        have hb7 := hb7.ch hc (fun h => h)
        have hrnd := hrnd.no hc
        have hV70 := hV70.mono (G := fun k => w.heap.size ≤ k ∧ k < w14.heap.size) (fun k h1 h2 => ⟨by first | exact h2 | exact h2.1 | ((try dsimp only at h2); omega), h1⟩)
        refine ws_narrow (S' := fun x => Ch No w14 x) (Ch.refl _ _) (fun x h => hc.tr h) ?_
        have hxx : x13 = x12 := ex13.trans ex12.symm
        have hdrp : ys40.drop p = x12 :: ys40.drop j := by rw [ex12, ← hpj]; exact getD_drop (by omega)
        refine ws_p rfl rfl rfl rfl (p_as rfl) ?_
        refine ws_n ?_
        refine x_in_normal ?_
        refine x_seq ?_
        refine wc_region ?_
        refine wl rfl rfl rfl (p_mv rfl) ?_
        refine wl rfl rfl rfl (p_sub rfl rfl (w64 (by omega))) ?_
        refine wl rfl rfl rfl (p_as rfl) ?_
        refine wl_nil ?_
        refine x_round (e' := [(1, .slice Ae le ce), (5, v31), (7, .pointer (some ⟨g7, 0, none⟩)), (8, i64 (cntT (eo o31) : Int)), (9, .slice A40 l40 c40), (11, (_)), (12, i64 (((p) : Int) - 1))]) ⟨rfl, rfl, rfl, rfl, rfl, rfl, rfl, trivial⟩ (by rw [hm0]; omega) ⟨p, _, (some t70), rfl, rfl, (by omega), (by rw [heq70, hxx, heu, hdrp, List.reverse_cons, putsI_snoc]), (hV70.mono (fun k _ h => by first | exact h.1 | exact h | exact h.1.1 | (have := h.1; show w.heap.size ≤ k; omega))), (hV31.mono (fun k _ h => by first | exact h.1 | exact h | exact h.1.1 | (have := h.1; show w.heap.size ≤ k; omega))), (hY40.mono (fun k _ h => by first | exact h.1 | exact h | exact h.1.1 | (have := h.1; show w.heap.size ≤ k; omega))), hex, hb7, hrnd, hg7w, HC⟩
      ·
        have c2 := of_decide_eq_false c2
        have hj0 : j = 0 := by omega
        rw [hj0, List.drop_zero, hys40, putsI_rev hwfo31] at heu
        refine wc_exit ?_
        refine x_then_exit ?_
        refine x_then_exit ?_
        refine x_in_here ?_
        refine x_seq ?_
        refine wc_seq ?_
        refine wc_region ?_
        refine wl rfl rfl rfl (p_mv rfl) ?_
        refine wl rfl rfl rfl (p_as rfl) ?_
        refine wl_nil ?_
        refine x_seq ?_
        refine wc_seq ?_
        refine wc_seq ?_
        refine wc_region ?_
        refine wl rfl rfl rfl (p_mv rfl) ?_
        refine wl rfl rfl rfl (p_lenS Tryd.underlying64 rfl) ?_
        refine wl rfl rfl rfl (p_mv rfl) ?_
        refine wl_nil ?_
        refine x_seq ?_
        refine wc_block ?_
        refine wc_loop (e' := [(1, .slice Ae le ce), (5, v31), (7, .pointer (some ⟨g7, 0, none⟩)), (8, i64 (cntT (eo o31) : Int)), (11, v), (13, (v31)), (72, .slice Ae le ce), (73, i64 (le : Int)), (74, i64 ((0) : Int))]) (fun mz ez uz => ∃ i : Nat, ∃ v2 : Value, ∃ o2 : Option LT, mz = le - i ∧ ez = [(1, .slice Ae le ce), (5, v31), (7, .pointer (some ⟨g7, 0, none⟩)), (8, i64 (cntT (eo o31) : Int)), (11, v), (13, v2), (72, .slice Ae le ce), (73, i64 (le : Int)), (74, i64 (i : Int))] ∧ (i ≤ le) ∧ (eo o2 = putsA (eo o31) (q.take i)) ∧ (TR 41 156 (fun k => w.heap.size ≤ k) uz v2 o2) ∧ (TR 41 156 (fun k => w.heap.size ≤ k) uz v o) ∧ (TR 41 156 (fun k => w.heap.size ≤ k) uz v31 o31) ∧ (SI uz (fun k => k < w.heap.size) eAC Ae le ce q) ∧ (Blk uz g7 38 (List.map u8v (rootT (eo o31))).toArray) ∧ (Sl uz (fun k => k = 0) u32v (some ⟨0, 0, none⟩) 64 64 rk) ∧ (w.heap.size ≤ g7) ∧ (Ch No w uz))
          ⟨rfl, rfl, rfl, rfl, rfl, rfl, rfl, rfl, rfl, trivial⟩ ⟨0, v31, o31, rfl, rfl, (by omega), rfl, (hV31.mono (fun k _ h => by first | exact h.1 | exact h | exact h.1.1 | (have := h.1; show w.heap.size ≤ k; omega))), (hV.mono (fun k _ h => by first | exact h.1 | exact h | exact h.1.1 | (have := h.1; show w.heap.size ≤ k; omega))), (hV31.mono (fun k _ h => by first | exact h.1 | exact h | exact h.1.1 | (have := h.1; show w.heap.size ≤ k; omega))), hex, hb7, hrnd, hg7w, HC⟩ ?_
        rintro m1 e w15 ⟨i, v2, o2, hm1, rfl, hi, heo2, hV2, hV, hV31, hex, hb7, hrnd, hg7w, HC⟩
        have hzw15 := HC.size
        have hV := hV.mono (G := fun k => w.heap.size ≤ k ∧ k < w15.heap.size) (fun k h1 h2 => ⟨by first | exact h2 | exact h2.1 | ((try dsimp only at h2); omega), h1⟩)
        have hV2 := hV2.mono (G := fun k => w.heap.size ≤ k ∧ k < w15.heap.size) (fun k h1 h2 => ⟨by first | exact h2 | exact h2.1 | ((try dsimp only at h2); omega), h1⟩)
        have hV31 := hV31.mono (G := fun k => w.heap.size ≤ k ∧ k < w15.heap.size) (fun k h1 h2 => ⟨by first | exact h2 | exact h2.1 | ((try dsimp only at h2); omega), h1⟩)
        refine wc_seq ?_
        refine wc_region ?_
        refine wl rfl rfl rfl (p_lt rfl rfl) ?_
        refine wl_nil ?_
        refine x_seq ?_
        refine wc_seq ?_
        refine wc_if rfl (fun c3 => ?_) (fun c3 => ?_)
        ·
          have c3 := of_decide_eq_true c3
          refine wc_skip ?_
          refine x_seq ?_
          refine wc_seq ?_
          refine wc_block ?_
          refine wc_seq ?_
          refine wc_region ?_
          obtain ⟨b16, o16, hA16, hF16, hr16⟩ := (hex).opn (i := i) (d := ⟨zeroH, zeroH, false⟩) (by omega)
          have hok16 := (hex).okAt (i := i) (d := ⟨zeroH, zeroH, false⟩) (by omega)
          obtain ⟨x16, ex16⟩ : ∃ x, x = List.getD q (i) ⟨zeroH, zeroH, false⟩ := ⟨_, rfl⟩
          rw [← ex16] at hr16 hok16
          obtain ⟨hx16k, hx16v⟩ := hok16
          have hr16 : w15.rangeAt b16 (o16 + i * 65) (((List.map u8v x16.k) ++ ((List.map u8v x16.v) ++ [.bool x16.dr])) : List Value) := hr16
          refine wl rfl rfl rfl (p_ixS (j := i * 65) Tryd.underlying64 sz66 rfl hA16 rfl (by omega) (by omega) (congrArg (· * 65) (Int.toNat_natCast _))) ?_
          refine wl rfl rfl rfl (p_ldA (cs := (((List.map u8v x16.k) ++ ((List.map u8v x16.v) ++ [.bool x16.dr])) : List Value)) Tryd.underlying66 rfl (szL sz66 (by first | rfl | (simp only [List.length_append, List.length_map, List.length_cons, List.length_nil, (show List.length x16.k = 32 from hx16k), (show List.length x16.v = 32 from hx16v)]; done) | (simp only [List.length_append, List.length_map, List.length_cons, List.length_nil, List.size_toArray, (show List.length x16.k = 32 from hx16k), (show List.length x16.v = 32 from hx16v)]; done))) rfl (fun _ e => e ▸ hr16)) ?_
          have hltg7 := hb7.lt
          refine wle rfl (e_alloc (cs := (((List.map u8v (List.replicate 32 (0 : UInt8))) ++ ((List.map u8v (List.replicate 32 (0 : UInt8))) ++ [Value.bool false])) : List Value).toArray) rfl (by rfl) (by rfl) (fun w17 g15 hg15 hb15 hc hsz15 => ?_))
          have hzw17 := hc.size
          have HC := HC.tr hc
          have hex := hex.no hc
          have hV := hV.ch hc (by first | exact fun _ _ _ h => h | (intro k hk hF ht; have h2 := hF.1; have h3 := hF.2; first | omega | (dsimp only at *; omega)))
          have hV2 := hV2.ch hc (by first | exact fun _ _ _ h => h | (intro k hk hF ht; have h2 := hF.1; have h3 := hF.2; first | omega | (dsimp only at *; omega)))
          have hV31 := hV31.ch hc (by first | exact fun _ _ _ h => h | (intro k hk hF ht; have h2 := hF.1; have h3 := hF.2; first | omega | (dsimp only at *; omega)))
          have hb7 := hb7.ch hc (fun h => h)
          have hrnd := hrnd.no hc
          have hge15 : w.heap.size ≤ g15 := by have := HC.size; omega
          have neg7_15 : g7 < g15 := by omega
          refine wle rfl (e_stW (vs := (((List.map u8v x16.k) ++ ((List.map u8v x16.v) ++ [.bool x16.dr])) : List Value)) (szL sz66 (by first | rfl | (simp only [List.length_append, List.length_map, List.length_cons, List.length_nil, (show List.length x16.k = 32 from hx16k), (show List.length x16.v = 32 from hx16v)]; done) | (simp only [List.length_append, List.length_map, List.length_cons, List.length_nil, List.size_toArray, (show List.length x16.k = 32 from hx16k), (show List.length x16.v = 32 from hx16v)]; done))) (oneA (oneL one_u8 _) (oneA (oneL one_u8 _) (allOne rfl))) rfl rfl hb15 (by first | rfl | (simp only [List.length_append, List.length_map, List.length_cons, List.length_nil, (show List.length (List.replicate 32 (0 : UInt8)) = 32 from (List.length_replicate ..)), (show List.length (List.replicate 32 (0 : UInt8)) = 32 from (List.length_replicate ..)), (show List.length x16.k = 32 from hx16k), (show List.length x16.v = 32 from hx16v)]; done) | (simp only [List.length_append, List.length_map, List.length_cons, List.length_nil, List.size_toArray, (show List.length (List.replicate 32 (0 : UInt8)) = 32 from (List.length_replicate ..)), (show List.length (List.replicate 32 (0 : UInt8)) = 32 from (List.length_replicate ..)), (show List.length x16.k = 32 from hx16k), (show List.length x16.v = 32 from hx16v)]; done)) (fun w18 hb15 hc hsz => ?_))
          have hzw18 := hc.size
          have HC := HC.trans hc (fun _ _ h => h) (fun k hk ht => absurd ht (by omega))
          first | have hex := hex.ch hc (by intro k hk ht; first | omega | (dsimp only at *; omega)) | have hex := hex.chT hc (by intro k hz hk ht; first | omega | (dsimp only at *; omega))
          have hV := hV.ch hc (by first | exact fun _ _ _ h => h | (intro k hk hF ht; have h2 := hF.1; have h3 := hF.2; first | omega | (dsimp only at *; omega)))
          have hV2 := hV2.ch hc (by first | exact fun _ _ _ h => h | (intro k hk hF ht; have h2 := hF.1; have h3 := hF.2; first | omega | (dsimp only at *; omega)))
          have hV31 := hV31.ch hc (by first | exact fun _ _ _ h => h | (intro k hk hF ht; have h2 := hF.1; have h3 := hF.2; first | omega | (dsimp only at *; omega)))
          have hb7 := hb7.ch hc (by omega)
          first | have hrnd := hrnd.ch hc (by intro k hk ht; first | omega | (dsimp only at *; omega)) | have hrnd := hrnd.chT hc (by intro k hz hk ht; first | omega | (dsimp only at *; omega))
          refine wl_nil ?_
          refine x_seq ?_
          refine wc_region ?_
          refine wl rfl rfl rfl (p_mv rfl) ?_
          refine wl rfl rfl rfl (p_fld (j := 0) Tryd.underlying66 rfl ⟨_, by rfl⟩ rfl rfl) ?_
          refine wl rfl rfl rfl (p_ldA (cs := (List.map u8v x16.k)) Tryd.underlying38 rfl (szL sz38 (by first | rfl | (simp only [List.length_append, List.length_map, List.length_cons, List.length_nil, (show List.length x16.k = 32 from hx16k)]; done) | (simp only [List.length_append, List.length_map, List.length_cons, List.length_nil, List.size_toArray, (show List.length x16.k = 32 from hx16k)]; done))) rfl (fun _ e => e ▸ rng_at (p := []) (q := ((List.map u8v x16.k) : List Value)) (r := (((List.map u8v x16.v) ++ [.bool x16.dr]) : List Value)) hb15 (by simp only [List.append_assoc, List.cons_append, List.nil_append, List.append_nil]) (by first | rfl | (simp only [List.length_append, List.length_map, List.length_cons, List.length_nil]; done) | (simp only [List.length_append, List.length_map, List.length_cons, List.length_nil, List.size_toArray]; done)))) ?_
          refine wl rfl rfl rfl (p_fld (j := 32) Tryd.underlying66 rfl ⟨_, by rfl⟩ rfl rfl) ?_
          refine wl rfl rfl rfl (p_ldA (cs := (List.map u8v x16.v)) Tryd.underlying38 rfl (szL sz38 (by first | rfl | (simp only [List.length_append, List.length_map, List.length_cons, List.length_nil, (show List.length x16.v = 32 from hx16v)]; done) | (simp only [List.length_append, List.length_map, List.length_cons, List.length_nil, List.size_toArray, (show List.length x16.v = 32 from hx16v)]; done))) rfl (fun _ e => e ▸ rng_at (p := ((List.map u8v x16.k) : List Value)) (q := ((List.map u8v x16.v) : List Value)) (r := ([.bool x16.dr] : List Value)) hb15 (by simp only [List.append_assoc, List.cons_append, List.nil_append, List.append_nil]) (by first | rfl | (simp only [List.length_append, List.length_map, List.length_cons, List.length_nil, (show List.length x16.k = 32 from hx16k)]; done) | (simp only [List.length_append, List.length_map, List.length_cons, List.length_nil, List.size_toArray, (show List.length x16.k = 32 from hx16k)]; done)))) ?_
          obtain ⟨_, hcA, _⟩ := putsA_ok (l := q.take i) hwfo31 (fun x hx => hoke x (List.mem_of_mem_take hx))
          have hcnA : cntT (eo o2) + 1 ≤ 4611686018427387904 := by rw [← heo2, List.length_take] at hcA; omega
          refine wle rfl (e_call ent44 rfl rfl (tput_made (F := fun k => w.heap.size ≤ k) (hV2.mono (fun k _ h => by first | exact h.1 | (have h2 := h.1; show w.heap.size ≤ k; omega))) (fun j hj => by show w.heap.size ≤ j; omega) (hx16k) (hx16v) (hcnA)) ?_)
          rintro _ w19 ⟨v83, t83, rfl, hV83, heq83, hc⟩
          refine ⟨_, rfl, ?_⟩
          have hzw19 := hc.size
          have HC := HC.tr hc
          have hex := hex.no hc
          have hV := hV.ch hc (by first | exact fun _ _ _ h => h | (intro k hk hF ht; have h2 := hF.1; have h3 := hF.2; first | omega | (dsimp only at *; omega)))
          have hV2 := hV2.ch hc (by first | exact fun _ _ _ h => h | (intro k hk hF ht; have h2 := hF.1; have h3 := hF.2; first | omega | (dsimp only at *; omega)))
          have hV31 := hV31.ch hc (by first | exact fun _ _ _ h => h | (intro k hk hF ht; have h2 := hF.1; have h3 := hF.2; first | omega | (dsimp only at *; omega)))
          have hb7 := hb7.ch hc (fun h => h)
          have hrnd := hrnd.no hc
          have hb15 := hb15.ch hc (fun h => h)
          have hV83 := hV83.mono (G := fun k => w.heap.size ≤ k ∧ k < w19.heap.size) (fun k h1 h2 => ⟨by first | exact h2 | exact h2.1 | ((try dsimp only at h2); omega), h1⟩)
          refine wl rfl rfl rfl (p_as rfl) ?_
          refine wl_nil ?_
          refine x_in_normal ?_
          refine x_seq ?_
          refine wc_region ?_
          refine wl rfl rfl rfl (p_add rfl rfl (w64 (by omega))) ?_
          refine wl rfl rfl rfl (p_mv rfl) ?_
          refine wl_nil ?_
          refine x_round (e' := [(1, .slice Ae le ce), (5, v31), (7, .pointer (some ⟨g7, 0, none⟩)), (8, i64 (cntT (eo o31) : Int)), (11, v), (13, (_)), (72, .slice Ae le ce), (73, i64 (le : Int)), (74, i64 ((i + 1) : Int))]) ⟨rfl, rfl, rfl, rfl, rfl, rfl, rfl, rfl, rfl, trivial⟩ (by rw [hm1]; omega) ⟨i + 1, _, (some t83), rfl, rfl, (by omega), (by rw [heq83, heo2, ex16]; exact (putsA_take (by omega)).symm), (hV83.mono (fun k _ h => by first | exact h.1 | exact h | exact h.1.1 | (have := h.1; show w.heap.size ≤ k; omega))), (hV.mono (fun k _ h => by first | exact h.1 | exact h | exact h.1.1 | (have := h.1; show w.heap.size ≤ k; omega))), (hV31.mono (fun k _ h => by first | exact h.1 | exact h | exact h.1.1 | (have := h.1; show w.heap.size ≤ k; omega))), hex, hb7, hrnd, hg7w, HC⟩
        ·
          have c3 := of_decide_eq_false c3
          rw [List.take_of_length_le (by omega)] at heo2
          obtain ⟨hwA, hcA, _⟩ := putsA_ok (l := q) hwfo31 hoke
          refine wc_exit ?_
          refine x_then_exit ?_
          refine x_then_exit ?_
          refine x_in_here ?_
          refine x_seq ?_
          refine wc_seq ?_
          refine wc_seq ?_
          refine wc_region ?_
          refine wl rfl rfl rfl (p_mv rfl) ?_
          refine wl rfl rfl rfl (p_lenS Tryd.underlying64 rfl) ?_
          refine wl rfl rfl rfl (p_mv rfl) ?_
          refine wl_nil ?_
          refine x_seq ?_
          refine wc_block ?_
          refine wc_loop (e' := [(1, .slice Ae le ce), (5, v31), (7, .pointer (some ⟨g7, 0, none⟩)), (8, i64 (cntT (eo o31) : Int)), (11, v), (13, (v2)), (85, .slice Ae le ce), (86, i64 (le : Int)), (87, i64 ((0) : Int))]) (fun mz ez uz => ∃ i : Nat, ∃ v3 : Value, ∃ o3 : Option LT, mz = le - i ∧ ez = [(1, .slice Ae le ce), (5, v31), (7, .pointer (some ⟨g7, 0, none⟩)), (8, i64 (cntT (eo o31) : Int)), (11, v), (13, v3), (85, .slice Ae le ce), (86, i64 (le : Int)), (87, i64 (i : Int))] ∧ (i ≤ le) ∧ (eo o3 = backA (eo o31) (putsA (eo o31) q) (q.take i)) ∧ (TR 41 156 (fun k => w.heap.size ≤ k) uz v3 o3) ∧ (TR 41 156 (fun k => w.heap.size ≤ k) uz v o) ∧ (TR 41 156 (fun k => w.heap.size ≤ k) uz v31 o31) ∧ (SI uz (fun k => k < w.heap.size) eAC Ae le ce q) ∧ (Blk uz g7 38 (List.map u8v (rootT (eo o31))).toArray) ∧ (Sl uz (fun k => k = 0) u32v (some ⟨0, 0, none⟩) 64 64 rk) ∧ (w.heap.size ≤ g7) ∧ (Ch No w uz))
            ⟨rfl, rfl, rfl, rfl, rfl, rfl, rfl, rfl, rfl, trivial⟩ ⟨0, v2, o2, rfl, rfl, (by omega), (by rw [List.take_zero]; exact heo2), (hV2.mono (fun k _ h => by first | exact h.1 | exact h | exact h.1.1 | (have := h.1; show w.heap.size ≤ k; omega))), (hV.mono (fun k _ h => by first | exact h.1 | exact h | exact h.1.1 | (have := h.1; show w.heap.size ≤ k; omega))), (hV31.mono (fun k _ h => by first | exact h.1 | exact h | exact h.1.1 | (have := h.1; show w.heap.size ≤ k; omega))), hex, hb7, hrnd, hg7w, HC⟩ ?_
          rintro m2 e w20 ⟨i, v3, o3, hm2, rfl, hi, heo3, hV3, hV, hV31, hex, hb7, hrnd, hg7w, HC⟩
          have hzw20 := HC.size
          have hV := hV.mono (G := fun k => w.heap.size ≤ k ∧ k < w20.heap.size) (fun k h1 h2 => ⟨by first | exact h2 | exact h2.1 | ((try dsimp only at h2); omega), h1⟩)
          have hV3 := hV3.mono (G := fun k => w.heap.size ≤ k ∧ k < w20.heap.size) (fun k h1 h2 => ⟨by first | exact h2 | exact h2.1 | ((try dsimp only at h2); omega), h1⟩)
          have hV31 := hV31.mono (G := fun k => w.heap.size ≤ k ∧ k < w20.heap.size) (fun k h1 h2 => ⟨by first | exact h2 | exact h2.1 | ((try dsimp only at h2); omega), h1⟩)
          refine wc_seq ?_
          refine wc_region ?_
          refine wl rfl rfl rfl (p_lt rfl rfl) ?_
          refine wl_nil ?_
          refine x_seq ?_
          refine wc_seq ?_
          refine wc_if rfl (fun c4 => ?_) (fun c4 => ?_)
          ·
            have c4 := of_decide_eq_true c4
            refine wc_skip ?_
            refine x_seq ?_
            refine wc_seq ?_
            refine wc_block ?_
            refine wc_seq ?_
            refine wc_region ?_
            obtain ⟨b21, o21, hA21, hF21, hr21⟩ := (hex).opn (i := i) (d := ⟨zeroH, zeroH, false⟩) (by omega)
            have hok21 := (hex).okAt (i := i) (d := ⟨zeroH, zeroH, false⟩) (by omega)
            obtain ⟨x21, ex21⟩ : ∃ x, x = List.getD q (i) ⟨zeroH, zeroH, false⟩ := ⟨_, rfl⟩
            rw [← ex21] at hr21 hok21
            obtain ⟨hx21k, hx21v⟩ := hok21
            have hr21 : w20.rangeAt b21 (o21 + i * 65) (((List.map u8v x21.k) ++ ((List.map u8v x21.v) ++ [.bool x21.dr])) : List Value) := hr21
            refine wl rfl rfl rfl (p_ixS (j := i * 65) Tryd.underlying64 sz66 rfl hA21 rfl (by omega) (by omega) (congrArg (· * 65) (Int.toNat_natCast _))) ?_
            refine wl rfl rfl rfl (p_ldA (cs := (((List.map u8v x21.k) ++ ((List.map u8v x21.v) ++ [.bool x21.dr])) : List Value)) Tryd.underlying66 rfl (szL sz66 (by first | rfl | (simp only [List.length_append, List.length_map, List.length_cons, List.length_nil, (show List.length x21.k = 32 from hx21k), (show List.length x21.v = 32 from hx21v)]; done) | (simp only [List.length_append, List.length_map, List.length_cons, List.length_nil, List.size_toArray, (show List.length x21.k = 32 from hx21k), (show List.length x21.v = 32 from hx21v)]; done))) rfl (fun _ e => e ▸ hr21)) ?_
            have hltg7 := hb7.lt
            refine wle rfl (e_alloc (cs := (((List.map u8v (List.replicate 32 (0 : UInt8))) ++ ((List.map u8v (List.replicate 32 (0 : UInt8))) ++ [Value.bool false])) : List Value).toArray) rfl (by rfl) (by rfl) (fun w22 g17 hg17 hb17 hc hsz17 => ?_))
            have hzw22 := hc.size
            have HC := HC.tr hc
            have hex := hex.no hc
            have hV := hV.ch hc (by first | exact fun _ _ _ h => h | (intro k hk hF ht; have h2 := hF.1; have h3 := hF.2; first | omega | (dsimp only at *; omega)))
            have hV3 := hV3.ch hc (by first | exact fun _ _ _ h => h | (intro k hk hF ht; have h2 := hF.1; have h3 := hF.2; first | omega | (dsimp only at *; omega)))
            have hV31 := hV31.ch hc (by first | exact fun _ _ _ h => h | (intro k hk hF ht; have h2 := hF.1; have h3 := hF.2; first | omega | (dsimp only at *; omega)))
            have hb7 := hb7.ch hc (fun h => h)
            have hrnd := hrnd.no hc
            have hge17 : w.heap.size ≤ g17 := by have := HC.size; omega
            have neg7_17 : g7 < g17 := by omega
            refine wle rfl (e_stW (vs := (((List.map u8v x21.k) ++ ((List.map u8v x21.v) ++ [.bool x21.dr])) : List Value)) (szL sz66 (by first | rfl | (simp only [List.length_append, List.length_map, List.length_cons, List.length_nil, (show List.length x21.k = 32 from hx21k), (show List.length x21.v = 32 from hx21v)]; done) | (simp only [List.length_append, List.length_map, List.length_cons, List.length_nil, List.size_toArray, (show List.length x21.k = 32 from hx21k), (show List.length x21.v = 32 from hx21v)]; done))) (oneA (oneL one_u8 _) (oneA (oneL one_u8 _) (allOne rfl))) rfl rfl hb17 (by first | rfl | (simp only [List.length_append, List.length_map, List.length_cons, List.length_nil, (show List.length (List.replicate 32 (0 : UInt8)) = 32 from (List.length_replicate ..)), (show List.length (List.replicate 32 (0 : UInt8)) = 32 from (List.length_replicate ..)), (show List.length x21.k = 32 from hx21k), (show List.length x21.v = 32 from hx21v)]; done) | (simp only [List.length_append, List.length_map, List.length_cons, List.length_nil, List.size_toArray, (show List.length (List.replicate 32 (0 : UInt8)) = 32 from (List.length_replicate ..)), (show List.length (List.replicate 32 (0 : UInt8)) = 32 from (List.length_replicate ..)), (show List.length x21.k = 32 from hx21k), (show List.length x21.v = 32 from hx21v)]; done)) (fun w23 hb17 hc hsz => ?_))
            have hzw23 := hc.size
            have HC := HC.trans hc (fun _ _ h => h) (fun k hk ht => absurd ht (by omega))
            first | have hex := hex.ch hc (by intro k hk ht; first | omega | (dsimp only at *; omega)) | have hex := hex.chT hc (by intro k hz hk ht; first | omega | (dsimp only at *; omega))
            have hV := hV.ch hc (by first | exact fun _ _ _ h => h | (intro k hk hF ht; have h2 := hF.1; have h3 := hF.2; first | omega | (dsimp only at *; omega)))
            have hV3 := hV3.ch hc (by first | exact fun _ _ _ h => h | (intro k hk hF ht; have h2 := hF.1; have h3 := hF.2; first | omega | (dsimp only at *; omega)))
            have hV31 := hV31.ch hc (by first | exact fun _ _ _ h => h | (intro k hk hF ht; have h2 := hF.1; have h3 := hF.2; first | omega | (dsimp only at *; omega)))
            have hb7 := hb7.ch hc (by omega)
            first | have hrnd := hrnd.ch hc (by intro k hk ht; first | omega | (dsimp only at *; omega)) | have hrnd := hrnd.chT hc (by intro k hz hk ht; first | omega | (dsimp only at *; omega))
            refine wl_nil ?_
            refine x_seq ?_
            refine wc_seq ?_
            refine wc_region ?_
            refine wl rfl rfl rfl (p_mv rfl) ?_
            refine wl rfl rfl rfl (p_fld (j := 0) Tryd.underlying66 rfl ⟨_, by rfl⟩ rfl rfl) ?_
            refine wl rfl rfl rfl (p_ldA (cs := (List.map u8v x21.k)) Tryd.underlying38 rfl (szL sz38 (by first | rfl | (simp only [List.length_append, List.length_map, List.length_cons, List.length_nil, (show List.length x21.k = 32 from hx21k)]; done) | (simp only [List.length_append, List.length_map, List.length_cons, List.length_nil, List.size_toArray, (show List.length x21.k = 32 from hx21k)]; done))) rfl (fun _ e => e ▸ rng_at (p := []) (q := ((List.map u8v x21.k) : List Value)) (r := (((List.map u8v x21.v) ++ [.bool x21.dr]) : List Value)) hb17 (by simp only [List.append_assoc, List.cons_append, List.nil_append, List.append_nil]) (by first | rfl | (simp only [List.length_append, List.length_map, List.length_cons, List.length_nil]; done) | (simp only [List.length_append, List.length_map, List.length_cons, List.length_nil, List.size_toArray]; done)))) ?_
            refine wle rfl (e_call ent42 rfl rfl (tget_any hV31 (hx21k)) ?_)
            rintro _ w24 ⟨u95, ok95, rfl, hu95, hg95, hc⟩
            refine ⟨_, rfl, ?_⟩
            have hzw24 := hc.size
            have HC := HC.tr hc
            have hex := hex.no hc
            have hV := hV.ch hc (by first | exact fun _ _ _ h => h | (intro k hk hF ht; have h2 := hF.1; have h3 := hF.2; first | omega | (dsimp only at *; omega)))
            have hV3 := hV3.ch hc (by first | exact fun _ _ _ h => h | (intro k hk hF ht; have h2 := hF.1; have h3 := hF.2; first | omega | (dsimp only at *; omega)))
            have hV31 := hV31.ch hc (by first | exact fun _ _ _ h => h | (intro k hk hF ht; have h2 := hF.1; have h3 := hF.2; first | omega | (dsimp only at *; omega)))
            have hb7 := hb7.ch hc (fun h => h)
            have hrnd := hrnd.no hc
            have hb17 := hb17.ch hc (fun h => h)
            obtain ⟨hx95, ho95⟩ : u95 = (getT (eo o31) x21.k).getD zeroH ∧ ok95 = (getT (eo o31) x21.k).isSome := by injection hg95 with h1 h2; exact ⟨h1, h2⟩
            have hbk := backA_take (t := eo o31) (o := putsA (eo o31) q) (l := q) (i := i) (d := ⟨zeroH, zeroH, false⟩) (by omega)
            rw [← ex21] at hbk
            refine wl rfl rfl rfl (p_mv rfl) ?_
            refine wl rfl rfl rfl (p_ext rfl rfl) ?_
            refine wl rfl rfl rfl (p_ext rfl rfl) ?_
            have hltg7 := hb7.lt
            have hltg17 := hb17.lt
            refine wle rfl (e_alloc (cs := ((List.replicate 32 (0 : UInt8)).map u8v).toArray) rfl (by rfl) rfl (fun w25 g18 hg18 hb18 hc hsz18 => ?_))
            have hzw25 := hc.size
            have HC := HC.tr hc
            have hex := hex.no hc
            have hV := hV.ch hc (by first | exact fun _ _ _ h => h | (intro k hk hF ht; have h2 := hF.1; have h3 := hF.2; first | omega | (dsimp only at *; omega)))
            have hV3 := hV3.ch hc (by first | exact fun _ _ _ h => h | (intro k hk hF ht; have h2 := hF.1; have h3 := hF.2; first | omega | (dsimp only at *; omega)))
            have hV31 := hV31.ch hc (by first | exact fun _ _ _ h => h | (intro k hk hF ht; have h2 := hF.1; have h3 := hF.2; first | omega | (dsimp only at *; omega)))
            have hb7 := hb7.ch hc (fun h => h)
            have hrnd := hrnd.no hc
            have hb17 := hb17.ch hc (fun h => h)
            have hge18 : w.heap.size ≤ g18 := by have := HC.size; omega
            have neg7_18 : g7 < g18 := by omega
            have neg17_18 : g17 < g18 := by omega
            refine wle rfl (e_stW (vs := List.map u8v u95) (szL sz38 (by rw [List.length_map]; exact hu95)) (oneL one_u8 _) rfl rfl hb18 (by simp only [List.size_toArray, List.length_map]; first | done | exact ((List.length_replicate ..)).trans (hu95).symm) (fun w26 hb18 hc hsz => ?_))
            have hzw26 := hc.size
            have HC := HC.trans hc (fun _ _ h => h) (fun k hk ht => absurd ht (by omega))
            first | have hex := hex.ch hc (by intro k hk ht; first | omega | (dsimp only at *; omega)) | have hex := hex.chT hc (by intro k hz hk ht; first | omega | (dsimp only at *; omega))
            have hV := hV.ch hc (by first | exact fun _ _ _ h => h | (intro k hk hF ht; have h2 := hF.1; have h3 := hF.2; first | omega | (dsimp only at *; omega)))
            have hV3 := hV3.ch hc (by first | exact fun _ _ _ h => h | (intro k hk hF ht; have h2 := hF.1; have h3 := hF.2; first | omega | (dsimp only at *; omega)))
            have hV31 := hV31.ch hc (by first | exact fun _ _ _ h => h | (intro k hk hF ht; have h2 := hF.1; have h3 := hF.2; first | omega | (dsimp only at *; omega)))
            have hb7 := hb7.ch hc (by omega)
            first | have hrnd := hrnd.ch hc (by intro k hk ht; first | omega | (dsimp only at *; omega)) | have hrnd := hrnd.chT hc (by intro k hz hk ht; first | omega | (dsimp only at *; omega))
            have hb17 := hb17.ch hc (by omega)
            refine wl rfl rfl rfl (p_as rfl) ?_
            refine wl_nil ?_
            refine x_seq ?_
            refine wc_seq ?_
            refine wc_region ?_
            refine wl rfl rfl rfl (p_mv rfl) ?_
            refine wl_nil ?_
            refine x_seq ?_
            refine wc_if rfl (fun c5 => ?_) (fun c5 => ?_)
            ·
              have hokb : ok95 = true := by simpa using c5
              obtain ⟨gv, hgv⟩ : ∃ z, getT (eo o31) x21.k = some z := Option.isSome_iff_exists.1 (ho95.symm.trans hokb)
              rw [hgv] at hbk
              refine wc_region ?_
              refine wl rfl rfl rfl (p_mv rfl) ?_
              refine wl rfl rfl rfl (p_fld (j := 0) Tryd.underlying66 rfl ⟨_, by rfl⟩ rfl rfl) ?_
              refine wl rfl rfl rfl (p_ldA (cs := (List.map u8v x21.k)) Tryd.underlying38 rfl (szL sz38 (by first | rfl | (simp only [List.length_append, List.length_map, List.length_cons, List.length_nil, (show List.length x21.k = 32 from hx21k)]; done) | (simp only [List.length_append, List.length_map, List.length_cons, List.length_nil, List.size_toArray, (show List.length x21.k = 32 from hx21k)]; done))) rfl (fun _ e => e ▸ rng_at (p := []) (q := ((List.map u8v x21.k) : List Value)) (r := (((List.map u8v x21.v) ++ [.bool x21.dr]) : List Value)) hb17 (by simp only [List.append_assoc, List.cons_append, List.nil_append, List.append_nil]) (by first | rfl | (simp only [List.length_append, List.length_map, List.length_cons, List.length_nil]; done) | (simp only [List.length_append, List.length_map, List.length_cons, List.length_nil, List.size_toArray]; done)))) ?_
              refine wl rfl rfl rfl (p_ldA (cs := List.map u8v u95) Tryd.underlying38 rfl (szL sz38 (by rw [List.length_map]; exact hu95)) rfl (fun _ e => e ▸ rngL hb18)) ?_
              obtain ⟨_, hcB, _⟩ := backA_ok hwfo31 (o := putsA (eo o31) q) hwA (l := q.take i) (fun x hx => hoke x (List.mem_of_mem_take hx))
              have hcnB : cntT (eo o3) + 1 ≤ 4611686018427387904 := by rw [← heo3, List.length_take] at hcB; omega
              refine wle rfl (e_call ent44 rfl rfl (tput_made (F := fun k => w.heap.size ≤ k) (hV3.mono (fun k _ h => by first | exact h.1 | (have h2 := h.1; show w.heap.size ≤ k; omega))) (fun j hj => by show w.heap.size ≤ j; omega) (hx21k) (hu95) (hcnB)) ?_)
              rintro _ w27 ⟨v103, t103, rfl, hV103, heq103, hc⟩
              refine ⟨_, rfl, ?_⟩
              have hzw27 := hc.size
              have HC := HC.tr hc
              have hex := hex.no hc
              have hV := hV.ch hc (by first | exact fun _ _ _ h => h | (intro k hk hF ht; have h2 := hF.1; have h3 := hF.2; first | omega | (dsimp only at *; omega)))
              have hV3 := hV3.ch hc (by first | exact fun _ _ _ h => h | (intro k hk hF ht; have h2 := hF.1; have h3 := hF.2; first | omega | (dsimp only at *; omega)))
              have hV31 := hV31.ch hc (by first | exact fun _ _ _ h => h | (intro k hk hF ht; have h2 := hF.1; have h3 := hF.2; first | omega | (dsimp only at *; omega)))
              have hb7 := hb7.ch hc (fun h => h)
              have hrnd := hrnd.no hc
              have hb17 := hb17.ch hc (fun h => h)
              have hb18 := hb18.ch hc (fun h => h)
              have hV103 := hV103.mono (G := fun k => w.heap.size ≤ k ∧ k < w27.heap.size) (fun k h1 h2 => ⟨by first | exact h2 | exact h2.1 | ((try dsimp only at h2); omega), h1⟩)
              refine wl rfl rfl rfl (p_as rfl) ?_
              refine wl_nil ?_
              refine x_in_normal ?_
              refine x_seq ?_
              refine wc_region ?_
              refine wl rfl rfl rfl (p_add rfl rfl (w64 (by omega))) ?_
              refine wl rfl rfl rfl (p_mv rfl) ?_
              refine wl_nil ?_
              refine x_round (e' := [(1, .slice Ae le ce), (5, v31), (7, .pointer (some ⟨g7, 0, none⟩)), (8, i64 (cntT (eo o31) : Int)), (11, v), (13, (_)), (85, .slice Ae le ce), (86, i64 (le : Int)), (87, i64 ((i + 1) : Int))]) ⟨rfl, rfl, rfl, rfl, rfl, rfl, rfl, rfl, rfl, trivial⟩ (by rw [hm2]; omega) ⟨i + 1, _, (some t103), rfl, rfl, (by omega), (by rw [heq103, hx95, heo3, hgv]; exact hbk.symm), (hV103.mono (fun k _ h => by first | exact h.1 | exact h | exact h.1.1 | (have := h.1; show w.heap.size ≤ k; omega))), (hV.mono (fun k _ h => by first | exact h.1 | exact h | exact h.1.1 | (have := h.1; show w.heap.size ≤ k; omega))), (hV31.mono (fun k _ h => by first | exact h.1 | exact h | exact h.1.1 | (have := h.1; show w.heap.size ≤ k; omega))), hex, hb7, hrnd, hg7w, HC⟩
            ·
              have hokb : ok95 = false := by simpa using c5
              have hgv : getT (eo o31) x21.k = none := by have h1 := ho95.symm.trans hokb; simpa using h1
              rw [hgv] at hbk
              refine wc_region ?_
              refine wl rfl rfl rfl (p_mv rfl) ?_
              refine wl rfl rfl rfl (p_fld (j := 0) Tryd.underlying66 rfl ⟨_, by rfl⟩ rfl rfl) ?_
              refine wl rfl rfl rfl (p_ldA (cs := (List.map u8v x21.k)) Tryd.underlying38 rfl (szL sz38 (by first | rfl | (simp only [List.length_append, List.length_map, List.length_cons, List.length_nil, (show List.length x21.k = 32 from hx21k)]; done) | (simp only [List.length_append, List.length_map, List.length_cons, List.length_nil, List.size_toArray, (show List.length x21.k = 32 from hx21k)]; done))) rfl (fun _ e => e ▸ rng_at (p := []) (q := ((List.map u8v x21.k) : List Value)) (r := (((List.map u8v x21.v) ++ [.bool x21.dr]) : List Value)) hb17 (by simp only [List.append_assoc, List.cons_append, List.nil_append, List.append_nil]) (by first | rfl | (simp only [List.length_append, List.length_map, List.length_cons, List.length_nil]; done) | (simp only [List.length_append, List.length_map, List.length_cons, List.length_nil, List.size_toArray]; done)))) ?_
              refine wle rfl (e_call ent45 rfl rfl (tdrop_made (F := fun k => w.heap.size ≤ k) (hV3.mono (fun k _ h => by first | exact h.1 | (have h2 := h.1; show w.heap.size ≤ k; omega))) (fun j hj => by show w.heap.size ≤ j; omega) (hx21k)) ?_)
              rintro _ w28 ⟨v107, o107, rfl, hV107, heq107, hc⟩
              refine ⟨_, rfl, ?_⟩
              have hzw28 := hc.size
              have HC := HC.tr hc
              have hex := hex.no hc
              have hV := hV.ch hc (by first | exact fun _ _ _ h => h | (intro k hk hF ht; have h2 := hF.1; have h3 := hF.2; first | omega | (dsimp only at *; omega)))
              have hV3 := hV3.ch hc (by first | exact fun _ _ _ h => h | (intro k hk hF ht; have h2 := hF.1; have h3 := hF.2; first | omega | (dsimp only at *; omega)))
              have hV31 := hV31.ch hc (by first | exact fun _ _ _ h => h | (intro k hk hF ht; have h2 := hF.1; have h3 := hF.2; first | omega | (dsimp only at *; omega)))
              have hb7 := hb7.ch hc (fun h => h)
              have hrnd := hrnd.no hc
              have hb17 := hb17.ch hc (fun h => h)
              have hb18 := hb18.ch hc (fun h => h)
              have hV107 := hV107.mono (G := fun k => w.heap.size ≤ k ∧ k < w28.heap.size) (fun k h1 h2 => ⟨by first | exact h2 | exact h2.1 | ((try dsimp only at h2); omega), h1⟩)
              refine wl rfl rfl rfl (p_as rfl) ?_
              refine wl_nil ?_
              refine x_in_normal ?_
              refine x_seq ?_
              refine wc_region ?_
              refine wl rfl rfl rfl (p_add rfl rfl (w64 (by omega))) ?_
              refine wl rfl rfl rfl (p_mv rfl) ?_
              refine wl_nil ?_
              refine x_round (e' := [(1, .slice Ae le ce), (5, v31), (7, .pointer (some ⟨g7, 0, none⟩)), (8, i64 (cntT (eo o31) : Int)), (11, v), (13, (_)), (85, .slice Ae le ce), (86, i64 (le : Int)), (87, i64 ((i + 1) : Int))]) ⟨rfl, rfl, rfl, rfl, rfl, rfl, rfl, rfl, rfl, trivial⟩ (by rw [hm2]; omega) ⟨i + 1, _, o107, rfl, rfl, (by omega), (by rw [heq107, heo3]; exact hbk.symm), (hV107.mono (fun k _ h => by first | exact h.1 | exact h | exact h.1.1 | (have := h.1; show w.heap.size ≤ k; omega))), (hV.mono (fun k _ h => by first | exact h.1 | exact h | exact h.1.1 | (have := h.1; show w.heap.size ≤ k; omega))), (hV31.mono (fun k _ h => by first | exact h.1 | exact h | exact h.1.1 | (have := h.1; show w.heap.size ≤ k; omega))), hex, hb7, hrnd, hg7w, HC⟩
          ·
            have c4 := of_decide_eq_false c4
            rw [List.take_of_length_le (by omega), order_ok hwfo31 hoke] at heo3
            refine wc_exit ?_
            refine x_then_exit ?_
            refine x_then_exit ?_
            refine x_in_here ?_
            refine x_seq ?_
            refine wc_seq ?_
            refine wc_draw (.st 0 0 (.st 2 1 (.st 1 2 (.st 3 0 (.st 4 0 (.st 5 0 (.st 7 1 (.st 6 2 (.st 8 0 (.st 9 0 (.st 10 0 (.st 11 0 (.st 13 0 (.st 12 2 (.st 14 0 (.st 15 0 (.st 16 0 (.st 17 0 (.st 19 1 (.st 18 2 (.st 20 0 (.st 21 0 (.st 22 0 (.st 23 2 (.st 24 0 (.st 25 0 .nil)))))))))))))))))))))))))) 26 (by kernel_rfl) (by kernel_rfl) (by kernel_rfl) (by repeat (first | with_reducible exact pan_body | with_reducible apply pan_then | with_reducible apply pan_in)) (fun z => Ch (fun k => k ∈ adsO o ∨ k ∈ adsO o3 ∨ k ∈ adsO o31) w20.drew z) (Ch.refl _ _) ?_
            obtain ⟨w29, ew29⟩ : ∃ x, x = w20.drew := ⟨_, rfl⟩
            rw [← ew29]
            have hc : Ch No w20 w29 := by rw [ew29]; exact Ch.drew _
            have hszw29 : w29.heap.size = w20.heap.size := by rw [ew29]; rfl
            clear ew29
            have hzw29 := hc.size
            have HC := HC.tr hc
            have hex := hex.no hc
            have hV := hV.ch hc (by first | exact fun _ _ _ h => h | (intro k hk hF ht; have h2 := hF.1; have h3 := hF.2; first | omega | (dsimp only at *; omega)))
            have hV3 := hV3.ch hc (by first | exact fun _ _ _ h => h | (intro k hk hF ht; have h2 := hF.1; have h3 := hF.2; first | omega | (dsimp only at *; omega)))
            have hV31 := hV31.ch hc (by first | exact fun _ _ _ h => h | (intro k hk hF ht; have h2 := hF.1; have h3 := hF.2; first | omega | (dsimp only at *; omega)))
            have hb7 := hb7.ch hc (fun h => h)
            have hrnd := hrnd.no hc
            have hS : Ch (fun k => k ∈ adsO o ∨ k ∈ adsO o3 ∨ k ∈ adsO o31) w29 w29 := Ch.refl _ _
            have hRBd : ∀ k, (k ∈ adsO o ∨ k ∈ adsO o3 ∨ k ∈ adsO o31) → ∃ cs, Blk w29 k 156 cs := fun k h => h.elim (hV.adsB k) (fun h => h.elim (hV3.adsB k) (fun h => hV31.adsB k h))
            have hb7D := hb7
            refine ws_p rfl rfl rfl rfl (p_mv rfl) ?_
            refine ws_h rfl rfl rfl rfl (p_ldA (cs := List.map u8v (rootT (eo o31))) Tryd.underlying38 rfl (szL sz38 (by rw [List.length_map]; exact rootT_len)) rfl (fun _ h => (rngL (hb7D.ch h (hb7D.not_nd hRBd))))) ?_
            refine ws_e rfl rfl (e_call ent46 rfl rfl (troot_made hV hrnd) ?_)
            rintro _ w30 ⟨rfl, hc, hFil, hRB, hRF⟩
            refine ⟨_, rfl, (by first | exact hS.tr hc | exact hS.trans hc (fun _ _ h => h) (fun _ _ h => .inl h) | exact hS.trans hc (fun _ _ h => h) (fun _ _ h => .inr (.inl h)) | exact hS.trans hc (fun _ _ h => h) (fun _ _ h => .inr (.inr (h)))), ?_⟩
            have hR0 := hV.ot.out hrnd (by omega)
            have hRo : ∀ k, k < w.heap.size → k ∈ adsO o → False := fun k h1 h2 => absurd (hRF k h2).1 (by omega)
            have hzw30 := hc.size
            have HC := HC.trans hc (fun _ _ h => h) (fun k hk ht => absurd (hRF k ht).1 (by omega))
            have hex := hex.ch hc (fun k hk ht => hRo k hk ht)
            have hV := hV.fil hc hRB hFil
            have hV3 := hV3.fil hc hRB hFil
            have hV31 := hV31.fil hc hRB hFil
            first | have hb7 := hb7.ch hc (hb7.not_nd hRB) | have hb7 := hb7.ch hc (by assumption)
            have hrnd := hrnd.ch hc (fun k hk ht => hR0 (hk ▸ ht))
            have hS := (by first | exact hS.tr hc | exact hS.trans hc (fun _ _ h => h) (fun _ _ h => .inl h) | exact hS.trans hc (fun _ _ h => h) (fun _ _ h => .inr (.inl h)) | exact hS.trans hc (fun _ _ h => h) (fun _ _ h => .inr (.inr (h))))
            refine ws_p rfl rfl rfl rfl (p_eqH (a := (rootT (eo o))) (b := (rootT (eo o31))) (by kernel_rfl) Tryd.underlying38 Tryd.underlying5 sz5 rfl rfl (rootT_len) (rootT_len)) ?_
            refine ws_p rfl rfl rfl rfl (p_mv rfl) ?_
            refine ws_know (d := 113) (b' := true) rfl (by rw [heu]; simp) ?_
            refine ws_pg rfl (gd_ rfl rfl rfl rfl rfl rfl) rfl rfl (p_mv rfl) ?_
            refine ws_hg rfl (gd_ rfl rfl rfl rfl rfl rfl) rfl rfl (p_ldA (cs := List.map u8v (rootT (eo o31))) Tryd.underlying38 rfl (szL sz38 (by rw [List.length_map]; exact rootT_len)) rfl (fun _ h => (rngL (hb7D.ch h (hb7D.not_nd hRBd))))) ?_
            refine ws_eg rfl (gd_ rfl rfl rfl rfl rfl rfl) (e_call ent46 rfl rfl (troot_made hV3 hrnd) ?_)
            rintro _ w31 ⟨rfl, hc, hFil, hRB, hRF⟩
            refine ⟨_, rfl, (by first | exact hS.tr hc | exact hS.trans hc (fun _ _ h => h) (fun _ _ h => .inl h) | exact hS.trans hc (fun _ _ h => h) (fun _ _ h => .inr (.inl h)) | exact hS.trans hc (fun _ _ h => h) (fun _ _ h => .inr (.inr (h)))), ?_⟩
            have hR0 := hV3.ot.out hrnd (by omega)
            have hRo : ∀ k, k < w.heap.size → k ∈ adsO o3 → False := fun k h1 h2 => absurd (hRF k h2).1 (by omega)
            have hzw31 := hc.size
            have HC := HC.trans hc (fun _ _ h => h) (fun k hk ht => absurd (hRF k ht).1 (by omega))
            have hex := hex.ch hc (fun k hk ht => hRo k hk ht)
            have hV := hV.fil hc hRB hFil
            have hV3 := hV3.fil hc hRB hFil
            have hV31 := hV31.fil hc hRB hFil
            first | have hb7 := hb7.ch hc (hb7.not_nd hRB) | have hb7 := hb7.ch hc (by assumption)
            have hrnd := hrnd.ch hc (fun k hk ht => hR0 (hk ▸ ht))
            have hS := (by first | exact hS.tr hc | exact hS.trans hc (fun _ _ h => h) (fun _ _ h => .inl h) | exact hS.trans hc (fun _ _ h => h) (fun _ _ h => .inr (.inl h)) | exact hS.trans hc (fun _ _ h => h) (fun _ _ h => .inr (.inr (h))))
            refine ws_pg rfl (gd_ rfl rfl rfl rfl rfl rfl) rfl rfl (p_eqH (a := (rootT (eo o3))) (b := (rootT (eo o31))) (by kernel_rfl) Tryd.underlying38 Tryd.underlying5 sz5 rfl rfl (rootT_len) (rootT_len)) ?_
            refine ws_p rfl rfl rfl rfl (p_pickT rfl rfl) ?_
            refine ws_p rfl rfl rfl rfl (p_mv rfl) ?_
            refine ws_know (d := 119) (b' := true) rfl (by rw [heo3]; simp) ?_
            refine ws_pg rfl (gd_ rfl rfl rfl rfl rfl rfl) rfl rfl (p_mv rfl) ?_
            refine ws_pg rfl (gd_ rfl rfl rfl rfl rfl rfl) rfl rfl (p_mv rfl) ?_
            refine ws_eg rfl (gd_ rfl rfl rfl rfl rfl rfl) (e_call ent43 rfl rfl (tlen_made hV3) ?_)
            rintro _ w32 ⟨rfl, hc⟩
            refine ⟨_, rfl, (by first | exact hS.tr hc | exact hS.trans hc (fun _ _ h => h) (fun _ _ h => .inl h) | exact hS.trans hc (fun _ _ h => h) (fun _ _ h => .inr (.inl h)) | exact hS.trans hc (fun _ _ h => h) (fun _ _ h => .inr (.inr (h)))), ?_⟩
            have hzw32 := hc.size
            have HC := HC.tr hc
            have hex := hex.no hc
            have hV := hV.ch hc (by first | exact fun _ _ _ h => h | (intro k hk hF ht; have h2 := hF.1; have h3 := hF.2; first | omega | (dsimp only at *; omega)))
            have hV3 := hV3.ch hc (by first | exact fun _ _ _ h => h | (intro k hk hF ht; have h2 := hF.1; have h3 := hF.2; first | omega | (dsimp only at *; omega)))
            have hV31 := hV31.ch hc (by first | exact fun _ _ _ h => h | (intro k hk hF ht; have h2 := hF.1; have h3 := hF.2; first | omega | (dsimp only at *; omega)))
            have hb7 := hb7.ch hc (fun h => h)
            have hrnd := hrnd.no hc
            have hS := (by first | exact hS.tr hc | exact hS.trans hc (fun _ _ h => h) (fun _ _ h => .inl h) | exact hS.trans hc (fun _ _ h => h) (fun _ _ h => .inr (.inl h)) | exact hS.trans hc (fun _ _ h => h) (fun _ _ h => .inr (.inr (h))))
            refine ws_pg rfl (gd_ rfl rfl rfl rfl rfl rfl) rfl rfl (p_eq rfl rfl) ?_
            refine ws_p rfl rfl rfl rfl (p_pickT rfl rfl) ?_
            refine ws_p rfl rfl rfl rfl (p_mv rfl) ?_
            refine ws_know (d := 125) (b' := true) rfl (by rw [heo3]; simp) ?_
            refine ws_pg rfl (gd_ rfl rfl rfl rfl rfl rfl) rfl rfl (p_mv rfl) ?_
            refine ws_hg rfl (gd_ rfl rfl rfl rfl rfl rfl) rfl rfl (p_ldA (cs := List.map u8v (rootT (eo o31))) Tryd.underlying38 rfl (szL sz38 (by rw [List.length_map]; exact rootT_len)) rfl (fun _ h => (rngL (hb7D.ch h (hb7D.not_nd hRBd))))) ?_
            refine ws_eg rfl (gd_ rfl rfl rfl rfl rfl rfl) (e_call ent46 rfl rfl (troot_made hV31 hrnd) ?_)
            rintro _ w33 ⟨rfl, hc, hFil, hRB, hRF⟩
            refine ⟨_, rfl, (by first | exact hS.tr hc | exact hS.trans hc (fun _ _ h => h) (fun _ _ h => .inl h) | exact hS.trans hc (fun _ _ h => h) (fun _ _ h => .inr (.inl h)) | exact hS.trans hc (fun _ _ h => h) (fun _ _ h => .inr (.inr (h)))), ?_⟩
            have hR0 := hV31.ot.out hrnd (by omega)
            have hRo : ∀ k, k < w.heap.size → k ∈ adsO o31 → False := fun k h1 h2 => absurd (hRF k h2).1 (by omega)
            have hzw33 := hc.size
            have HC := HC.trans hc (fun _ _ h => h) (fun k hk ht => absurd (hRF k ht).1 (by omega))
            have hex := hex.ch hc (fun k hk ht => hRo k hk ht)
            have hV := hV.fil hc hRB hFil
            have hV3 := hV3.fil hc hRB hFil
            have hV31 := hV31.fil hc hRB hFil
            first | have hb7 := hb7.ch hc (hb7.not_nd hRB) | have hb7 := hb7.ch hc (by assumption)
            have hrnd := hrnd.ch hc (fun k hk ht => hR0 (hk ▸ ht))
            have hS := (by first | exact hS.tr hc | exact hS.trans hc (fun _ _ h => h) (fun _ _ h => .inl h) | exact hS.trans hc (fun _ _ h => h) (fun _ _ h => .inr (.inl h)) | exact hS.trans hc (fun _ _ h => h) (fun _ _ h => .inr (.inr (h))))
            refine ws_pg rfl (gd_ rfl rfl rfl rfl rfl rfl) rfl rfl (p_eqH (a := (rootT (eo o31))) (b := (rootT (eo o31))) (by kernel_rfl) Tryd.underlying38 Tryd.underlying5 sz5 rfl rfl (rootT_len) (rootT_len)) ?_
            refine ws_p rfl rfl rfl rfl (p_pickT rfl rfl) ?_
            refine ws_p rfl rfl rfl rfl (p_mv rfl) ?_
            refine ws_know (d := 131) (b' := true) rfl (by simp) ?_
            refine ws_eg rfl (gd_ rfl rfl rfl rfl rfl rfl) (e_call ent40 rfl rfl (lives11_any hrnd) ?_)
            rintro _ w34 ⟨rfl, hc⟩
            refine ⟨_, rfl, (by first | exact hS.tr hc | exact hS.trans hc (fun _ _ h => h) (fun _ _ h => .inl h) | exact hS.trans hc (fun _ _ h => h) (fun _ _ h => .inr (.inl h)) | exact hS.trans hc (fun _ _ h => h) (fun _ _ h => .inr (.inr (h)))), ?_⟩
            have hzw34 := hc.size
            have HC := HC.tr hc
            have hex := hex.no hc
            have hV := hV.ch hc (by first | exact fun _ _ _ h => h | (intro k hk hF ht; have h2 := hF.1; have h3 := hF.2; first | omega | (dsimp only at *; omega)))
            have hV3 := hV3.ch hc (by first | exact fun _ _ _ h => h | (intro k hk hF ht; have h2 := hF.1; have h3 := hF.2; first | omega | (dsimp only at *; omega)))
            have hV31 := hV31.ch hc (by first | exact fun _ _ _ h => h | (intro k hk hF ht; have h2 := hF.1; have h3 := hF.2; first | omega | (dsimp only at *; omega)))
            have hb7 := hb7.ch hc (fun h => h)
            have hrnd := hrnd.no hc
            have hS := (by first | exact hS.tr hc | exact hS.trans hc (fun _ _ h => h) (fun _ _ h => .inl h) | exact hS.trans hc (fun _ _ h => h) (fun _ _ h => .inr (.inl h)) | exact hS.trans hc (fun _ _ h => h) (fun _ _ h => .inr (.inr (h))))
            refine ws_p rfl rfl rfl rfl (p_pickT rfl rfl) ?_
            refine ws_p rfl rfl rfl rfl (p_as rfl) ?_
            refine ws_n ?_
            refine x_seq ?_
            refine wc_ret ?_
            refine fin_run ((res1 rfl rfl)) ?_
            exact ⟨rfl, HC⟩
end Go.Proofs.YtkfkdakghjlenaaDoor
