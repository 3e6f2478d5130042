/-
 Proved here: whatever the input, the law 'WholeGrowth' answers true, and what came in reads as it did; the tables that it reads are tied to the program's text; no other condition.
-/
import Derived.Test.YtdencdfdikmgbaaGreatDoorWm1
import Derived.Test.YtdencdfdikmgbaaGreatDoorCards
import Derived.Test.YtdencdfdikmgbaaGreatDoorTie
import Derived.WalkKit
import Derived.Test.YtdencdfdikmgbaaGreatDoorZg3
import Derived.Test.YtdencdfdikmgbaaGreatDoorJnZ
set_option linter.unusedSimpArgs false
namespace Go.Proofs.YtdencdfdikmgbaaGreatDoor.lawWholeGrowth
open Go.ChangeShapes Go.WideShapes Go.ChangeAt Go.RowKit Go.Gx Go.Plain Go.Proofs.YtdencdfdikmgbaaGreatDoor
set_option linter.unusedVariables false
theorem own : ownKnob Tryz.prog.godebug = none := by kernel_rfl
theorem laidOut : laidOutB Tryz.prog = true := by kernel_rfl
theorem gTab0 : Tryz.prog.globalNamed "math/bits.deBruijn32tab" = some 2 := by kernel_rfl
theorem gTabType0 : (Tryz.prog.globals[2]?).map (·.type) = some 33 := by kernel_rfl
theorem cellsT0 : Tryz.prog.cellsOf 33 = 32 := by kernel_rfl
theorem cellsE0 : Tryz.prog.cellsOf 5 = 1 := by kernel_rfl
def zs0 : List Int := [0, 1, 28, 2, 29, 14, 24, 3, 30, 22, 20, 15, 25, 17, 4, 8, 31, 27, 13, 23, 21, 19, 16, 7, 26, 12, 18, 6, 11, 5, 10, 9]
theorem gTab1 : Tryz.prog.globalNamed "math/bits.deBruijn64tab" = some 3 := by kernel_rfl
theorem gTabType1 : (Tryz.prog.globals[3]?).map (·.type) = some 250 := by kernel_rfl
theorem cellsT1 : Tryz.prog.cellsOf 250 = 64 := by kernel_rfl
theorem cellsE1 : Tryz.prog.cellsOf 5 = 1 := by kernel_rfl
def zs1 : List Int := [0, 1, 56, 2, 57, 49, 28, 3, 61, 58, 42, 50, 38, 29, 17, 4, 62, 47, 59, 36, 45, 43, 51, 22, 53, 39, 33, 30, 24, 18, 12, 5, 63, 55, 48, 27, 60, 41, 37, 16, 46, 35, 44, 21, 52, 32, 23, 11, 54, 26, 40, 15, 34, 20, 31, 10, 25, 14, 19, 9, 13, 8, 7, 6]
theorem gTab2 : Tryz.prog.globalNamed "indenture/sha.rounds" = some 0 := by kernel_rfl
theorem gTabType2 : (Tryz.prog.globals[0]?).map (·.type) = some 172 := by kernel_rfl
theorem cellsT2 : Tryz.prog.cellsOf 172 = 64 := by kernel_rfl
theorem cellsE2 : Tryz.prog.cellsOf 81 = 1 := by kernel_rfl
def zs2 : List Int := [1116352408, 1899447441, 3049323471, 3921009573, 961987163, 1508970993, 2453635748, 2870763221, 3624381080, 310598401, 607225278, 1426881987, 1925078388, 2162078206, 2614888103, 3248222580, 3835390401, 4022224774, 264347078, 604807628, 770255983, 1249150122, 1555081692, 1996064986, 2554220882, 2821834349, 2952996808, 3210313671, 3336571891, 3584528711, 113926993, 338241895, 666307205, 773529912, 1294757372, 1396182291, 1695183700, 1986661051, 2177026350, 2456956037, 2730485921, 2820302411, 3259730800, 3345764771, 3516065817, 3600352804, 4094571909, 275423344, 430227734, 506948616, 659060556, 883997877, 958139571, 1322822218, 1537002063, 1747873779, 1955562222, 2024104815, 2227730452, 2361852424, 2428436474, 2756734187, 3204031479, 3329325298]
theorem gTab3 : Tryz.prog.globalNamed "indenture/sum.nibbles" = some 1 := by kernel_rfl
theorem gTabType3 : (Tryz.prog.globals[1]?).map (·.type) = some 363 := by kernel_rfl
theorem cellsT3 : Tryz.prog.cellsOf 363 = 16 := by kernel_rfl
theorem cellsE3 : Tryz.prog.cellsOf 81 = 1 := by kernel_rfl
def zs3 : List Int := [0, 274646895, 549293790, 820201905, 1098587580, 1361435347, 1640403810, 1905808397, 2197175160, 2460548119, 2722870694, 2987750089, 3280807620, 3553878443, 3811616794, 4084100981]
theorem laid0 {W : World} (h : laidMetH Tryz.prog Rows.wholeGrowthRow.laid W) : laidMet Tryz.prog (("math/bits.deBruijn32tab", Lib.tabData .u8 zs0) :: ("math/bits.deBruijn64tab", Lib.tabData .u8 zs1) :: ("indenture/sha.rounds", Lib.tabData .u32 zs2) :: ("indenture/sum.nibbles", Lib.tabData .u32 zs3) :: []) W := h
theorem laid1 {W : World} (h : laidMetH Tryz.prog Rows.wholeGrowthRow.laid W) : laidMet Tryz.prog (("math/bits.deBruijn64tab", Lib.tabData .u8 zs1) :: ("indenture/sha.rounds", Lib.tabData .u32 zs2) :: ("indenture/sum.nibbles", Lib.tabData .u32 zs3) :: []) W := im (laid0 h)
theorem laid2 {W : World} (h : laidMetH Tryz.prog Rows.wholeGrowthRow.laid W) : laidMet Tryz.prog (("indenture/sha.rounds", Lib.tabData .u32 zs2) :: ("indenture/sum.nibbles", Lib.tabData .u32 zs3) :: []) W := im (laid1 h)
theorem laid3 {W : World} (h : laidMetH Tryz.prog Rows.wholeGrowthRow.laid W) : laidMet Tryz.prog (("indenture/sum.nibbles", Lib.tabData .u32 zs3) :: []) W := im (laid2 h)
theorem table0 {W : World} (h : laidMetH Tryz.prog Rows.wholeGrowthRow.laid W) : Lib.TabIs Tryz.prog W "math/bits.deBruijn32tab" .u8 zs0 :=
 Lib.tabIs_of_head gTab0 gTabType0 Tryz.underlying33 Tryz.underlying5 cellsE0 cellsT0 (laid0 h)
theorem table1 {W : World} (h : laidMetH Tryz.prog Rows.wholeGrowthRow.laid W) : Lib.TabIs Tryz.prog W "math/bits.deBruijn64tab" .u8 zs1 :=
 Lib.tabIs_of_head gTab1 gTabType1 Tryz.underlying250 Tryz.underlying5 cellsE1 cellsT1 (laid1 h)
theorem table2 {W : World} (h : laidMetH Tryz.prog Rows.wholeGrowthRow.laid W) : Lib.TabIs Tryz.prog W "indenture/sha.rounds" .u32 zs2 :=
 Lib.tabIs_of_head gTab2 gTabType2 Tryz.underlying172 Tryz.underlying81 cellsE2 cellsT2 (laid2 h)
theorem table3 {W : World} (h : laidMetH Tryz.prog Rows.wholeGrowthRow.laid W) : Lib.TabIs Tryz.prog W "indenture/sum.nibbles" .u32 zs3 :=
 Lib.tabIs_of_head gTab3 gTabType3 Tryz.underlying363 Tryz.underlying81 cellsE3 cellsT3 (laid3 h)
set_option maxRecDepth 100000 in
theorem contract (H : Type) (enc : TypeId × Value → H) (W : World) (base : Nat) (args : Array Value) (ds gs : List (DataW H)) (before : List MemPlace)
  (hval0 : ∀ (j : Nat) t v, Tryz.f4.params[j]? = some t → args[j]? = some v → Value.okWide Tryz.prog W .any base t v)
  (hW : DataW.Whole enc Tryz.prog Tryz.f4.params.toList Rows.wholeGrowthSpec.vars false W args.toList ds gs before)
  (hsz0 : (DataW.weightsEach Tryz.prog (Tryz.f4.params.toList ++ (OpenSpec.ofChange Rows.wholeGrowthSpec).bare.plain.varTypes Tryz.prog) (ds ++ gs)).all (· ≤ reachBytes) = true) (hL : laidMetH Tryz.prog Rows.wholeGrowthRow.laid W) :
  Calls Tryz.prog 4 args W fun e W' => ∃ v, e = .returned v ∧ Rows.wholeGrowthSpec.post enc Tryz.prog Tryz.f4 false true false false W args v W' := by
 have hval : ∀ (j : Nat) t v, Tryz.f4.params[j]? = some t → args[j]? = some v → Value.okWide Tryz.prog W .any base t v := hval0
 have hW' := hW
 obtain ⟨p, q, hA0, hV, rfl, hfz, hnd⟩ := hW
 have hA : DataW.TrodAll enc Tryz.prog W 0 (fun _ => true) true Tryz.f4.params.toList args.toList ds p := hA0
 have hsz : (DataW.weightsEach Tryz.prog (Tryz.f4.params.toList ++ (OpenSpec.ofChange Rows.wholeGrowthSpec).bare.plain.varTypes Tryz.prog) (ds ++ gs)).all (· ≤ reachBytes) = true := hsz0
 rw [Tryz.params4] at hA hval hsz
 have h32 := px (xs := _root_.Go.Proofs.YtdencdfdikmgbaaGreatDoor.db32) (m := 32) (table0 hL) gTab0 (by decide +kernel) (by decide +kernel)
 have h64 := px (xs := _root_.Go.Proofs.YtdencdfdikmgbaaGreatDoor.db64) (m := 64) (table1 hL) gTab1 (by decide +kernel) (by decide +kernel)
 have hrk := sg (xs := rk) (m := 64) (table2 hL) gTab2 (by decide +kernel) (by decide +kernel)
 have hnb := sg (xs := _root_.Go.Proofs.YtdencdfdikmgbaaGreatDoor.nib) (m := 16) (table3 hL) gTab3 (by decide +kernel) (by decide +kernel)
 have hT : Tabs W := ⟨hrk, hnb, h32, h64⟩
 obtain ⟨v0, vs0, d0, ds0, p0, q0, hargs, rfl, rfl, h0, r0⟩ := trodAll_cons hA
 obtain ⟨v1, vs1, d1, ds1, p1, q1, rfl, rfl, rfl, h1, r1⟩ := trodAll_cons r0
 obtain ⟨v2, vs2, d2, ds2, p2, q2, rfl, rfl, rfl, h2, r2⟩ := trodAll_cons r1
 obtain ⟨rfl, rfl, rfl⟩ := trodAll_nil r2
 obtain rfl : args = #[v0, v1, v2] := by cases args; simp_all
 obtain ⟨rfl, rfl⟩ := trodVars_none hV
 have z0 : Light Tryz.prog 45 d0 := fO hsz (j := 0) rfl rfl
 have k0 := h0
 have lt0 : ∀ x ∈ p0, x.block < W.heap.size := by obtain ⟨m, hm⟩ := k0; exact DataW.trod_lt m _ _ _ hm
 obtain ⟨m0, hm0⟩ := h0
 obtain ⟨cs0, rfl⟩ := gc Tryz.underlying45 (hval 0 45 v0 rfl rfl)
 obtain ⟨len0, el0⟩ := mn Tryz.underlying45 (by kernel_rfl) (by kernel_rfl) hm0 z0
 obtain ⟨g0, g1, g2, rfl⟩ : ∃ g0 g1 g2, cs0 = #[g0, g1, g2] := by
  obtain ⟨cs⟩ := cs0; simp [Value.cells] at len0; rcases cs with _ | ⟨x, _ | ⟨y, _ | ⟨z, _ | ⟨u, r⟩⟩⟩⟩ <;> simp at len0; exact ⟨_, _, _, rfl⟩
 obtain ⟨mm0, dd0, pp0, ht0, hl0⟩ := el0 0 g0 (by simp [Value.cells])
 obtain ⟨n0, e0, w0⟩ := gY Tryz.underlying3 ht0
 simp at e0
 subst e0
 obtain ⟨mm1, dd1, pp1, ht1, hl1⟩ := el0 1 g1 (by simp [Value.cells])
 obtain ⟨n1, e1, w1⟩ := gY Tryz.underlying3 ht1
 simp at e1
 subst e1
 obtain ⟨mm2, dd2, pp2, ht2, hl2⟩ := el0 2 g2 (by simp [Value.cells])
 obtain ⟨n2, e2, w2⟩ := gY Tryz.underlying3 ht2
 simp at e2
 subst e2
 have z1 : Light Tryz.prog 29 d1 := fO hsz (j := 1) rfl rfl
 have k1 := h1
 have lt1 : ∀ x ∈ p1, x.block < W.heap.size := by obtain ⟨m, hm⟩ := k1; exact DataW.trod_lt m _ _ _ hm
 obtain ⟨m1, hm1⟩ := h1
 obtain ⟨cs1, rfl⟩ := gc Tryz.underlying29 (hval 1 29 v1 rfl rfl)
 obtain ⟨y1, x1, e1, s1, t1, ⟨mm1, dd1, pp1, ht1, hl1⟩, ⟨nn1, de1, pe1, hu1, hm21⟩⟩ := tr_two (c := 6) Tryz.underlying29 (by kernel_rfl) (by kernel_rfl) hm1 z1
 obtain ⟨sa, na, ba, Ara, lra, cra, Awa, lwa, cwa, Aqa, lqa, cqa, ra, wa, qa, eca, hra, hwa, hna, hqa, k1a, k2a, k3a⟩ := mJ (b2 := 0) Tryz.underlying28 (by kernel_rfl) rfl (by kernel_rfl) Tryz.underlying25 rfl (by kernel_rfl) Tryz.underlying3 Tryz.underlying3 Tryz.underlying4 Tryz.underlying22 Tryz.underlying23 Tryz.underlying26 (by kernel_rfl) (by kernel_rfl) (fun m el dd pp h1 h2 => pA Tryz.underlying54 (by kernel_rfl) rfl (by kernel_rfl) Tryz.underlying4 Tryz.underlying9 Tryz.underlying9 Tryz.underlying23 (by kernel_rfl) (by kernel_rfl) (fun m el dd pp h1 h2 => iU Tryz.underlying52 (by kernel_rfl) rfl (by kernel_rfl) Tryz.underlying9 Tryz.underlying9 Tryz.underlying4 h1 h2) h1 h2) (fun m el dd pp h1 h2 => iU Tryz.underlying52 (by kernel_rfl) rfl (by kernel_rfl) Tryz.underlying9 Tryz.underlying9 Tryz.underlying4 h1 h2) (fun m el dd pp h1 h2 => kS Tryz.underlying34 Tryz.underlying5 (by kernel_rfl) (by kernel_rfl) h1 h2) ht1 hl1
 obtain ⟨sb, nb, bb, Arb, lrb, crb, Awb, lwb, cwb, Aqb, lqb, cqb, rb, wb, qb, ecb, hrb, hwb, hnb, hqb, k1b, k2b, k3b⟩ := mJ (b2 := 0) Tryz.underlying28 (by kernel_rfl) rfl (by kernel_rfl) Tryz.underlying25 rfl (by kernel_rfl) Tryz.underlying3 Tryz.underlying3 Tryz.underlying4 Tryz.underlying22 Tryz.underlying23 Tryz.underlying26 (by kernel_rfl) (by kernel_rfl) (fun m el dd pp h1 h2 => pA Tryz.underlying54 (by kernel_rfl) rfl (by kernel_rfl) Tryz.underlying4 Tryz.underlying9 Tryz.underlying9 Tryz.underlying23 (by kernel_rfl) (by kernel_rfl) (fun m el dd pp h1 h2 => iU Tryz.underlying52 (by kernel_rfl) rfl (by kernel_rfl) Tryz.underlying9 Tryz.underlying9 Tryz.underlying4 h1 h2) h1 h2) (fun m el dd pp h1 h2 => iU Tryz.underlying52 (by kernel_rfl) rfl (by kernel_rfl) Tryz.underlying9 Tryz.underlying9 Tryz.underlying4 h1 h2) (fun m el dd pp h1 h2 => kS Tryz.underlying34 Tryz.underlying5 (by kernel_rfl) (by kernel_rfl) h1 h2) hu1 hm21
 obtain rfl : cs1 = ([i64 sa, i64 na, .bool ba, .slice Ara lra cra, .slice Awa lwa cwa, .slice Aqa lqa cqa, i64 sb, i64 nb, .bool bb, .slice Arb lrb crb, .slice Awb lwb cwb, .slice Aqb lqb cqb] : List Value).toArray := Array.toList_inj.1 (by simpa [Value.cells, eca, ecb] using e1)
 have z2 : Light Tryz.prog 26 d2 := fO hsz (j := 2) rfl rfl
 have k2 := h2
 have lt2 : ∀ x ∈ p2, x.block < W.heap.size := by obtain ⟨m, hm⟩ := k2; exact DataW.trod_lt m _ _ _ hm
 obtain ⟨m2, hm2⟩ := h2
 obtain ⟨A2, l2, c2, rfl⟩ := okWide_slice Tryz.underlying26 (hval 2 26 v2 rfl rfl)
 obtain ⟨A2', l2', c2', x2, e2, s2, C2⟩ := gE (E := eHs) Tryz.underlying26 (by kernel_rfl) (fun m el dd pp h1 h2 => kS Tryz.underlying34 Tryz.underlying5 (by kernel_rfl) (by kernel_rfl) h1 h2) hm2 z2
 simp [Value.cells] at e2
 obtain ⟨rfl, rfl, rfl⟩ := e2
 rw [show Tryz.prog.bytesOf 34 = 32 by kernel_rfl] at C2
 first | clear hA0 hval0 | skip
 refine (iy hra hwa hna hqa hrb hwb hnb hqb s2 k1a k2a k3a k1b k2b k3b (by have := s2.cap; omega) hT).mono fun e W' ⟨he, bel⟩ => ?_
 subst he
 exact ⟨_, rfl, _, _, _, [], _, [], hW', trodAll_mk1 (shut_bool Tryz.underlying4 _), (trodAll_cons_mk (Below.trod laidOut (by kernel_rfl) (of_decide_eq_true (by kernel_rfl)) k0 bel.below lt0) (trodAll_cons_mk (Below.trod laidOut (by kernel_rfl) (of_decide_eq_true (by kernel_rfl)) k1 bel.below lt1) (trodAll_cons_mk (Below.trod laidOut (by kernel_rfl) (of_decide_eq_true (by kernel_rfl)) k2 bel.below lt2) trodAll_mk0))), rfl, bel.below.frame _, fun h => by cases h⟩
noncomputable def laidWorld (os : Os) : World :=
 { World.holding Tryz.prog os ⟨#[], #[], []⟩ with heap := (((((World.holding Tryz.prog os ⟨#[], #[], []⟩).heap.modify 2 fun
   | .cells _ t frozen => .cells #[.int .u8 0, .int .u8 1, .int .u8 28, .int .u8 2, .int .u8 29, .int .u8 14, .int .u8 24, .int .u8 3, .int .u8 30, .int .u8 22, .int .u8 20, .int .u8 15, .int .u8 25, .int .u8 17, .int .u8 4, .int .u8 8, .int .u8 31, .int .u8 27, .int .u8 13, .int .u8 23, .int .u8 21, .int .u8 19, .int .u8 16, .int .u8 7, .int .u8 26, .int .u8 12, .int .u8 18, .int .u8 6, .int .u8 11, .int .u8 5, .int .u8 10, .int .u8 9] t frozen
   | o => o).modify 3 fun
   | .cells _ t frozen => .cells #[.int .u8 0, .int .u8 1, .int .u8 56, .int .u8 2, .int .u8 57, .int .u8 49, .int .u8 28, .int .u8 3, .int .u8 61, .int .u8 58, .int .u8 42, .int .u8 50, .int .u8 38, .int .u8 29, .int .u8 17, .int .u8 4, .int .u8 62, .int .u8 47, .int .u8 59, .int .u8 36, .int .u8 45, .int .u8 43, .int .u8 51, .int .u8 22, .int .u8 53, .int .u8 39, .int .u8 33, .int .u8 30, .int .u8 24, .int .u8 18, .int .u8 12, .int .u8 5, .int .u8 63, .int .u8 55, .int .u8 48, .int .u8 27, .int .u8 60, .int .u8 41, .int .u8 37, .int .u8 16, .int .u8 46, .int .u8 35, .int .u8 44, .int .u8 21, .int .u8 52, .int .u8 32, .int .u8 23, .int .u8 11, .int .u8 54, .int .u8 26, .int .u8 40, .int .u8 15, .int .u8 34, .int .u8 20, .int .u8 31, .int .u8 10, .int .u8 25, .int .u8 14, .int .u8 19, .int .u8 9, .int .u8 13, .int .u8 8, .int .u8 7, .int .u8 6] t frozen
   | o => o).modify 0 fun
   | .cells _ t frozen => .cells #[.int .u32 1116352408, .int .u32 1899447441, .int .u32 3049323471, .int .u32 3921009573, .int .u32 961987163, .int .u32 1508970993, .int .u32 2453635748, .int .u32 2870763221, .int .u32 3624381080, .int .u32 310598401, .int .u32 607225278, .int .u32 1426881987, .int .u32 1925078388, .int .u32 2162078206, .int .u32 2614888103, .int .u32 3248222580, .int .u32 3835390401, .int .u32 4022224774, .int .u32 264347078, .int .u32 604807628, .int .u32 770255983, .int .u32 1249150122, .int .u32 1555081692, .int .u32 1996064986, .int .u32 2554220882, .int .u32 2821834349, .int .u32 2952996808, .int .u32 3210313671, .int .u32 3336571891, .int .u32 3584528711, .int .u32 113926993, .int .u32 338241895, .int .u32 666307205, .int .u32 773529912, .int .u32 1294757372, .int .u32 1396182291, .int .u32 1695183700, .int .u32 1986661051, .int .u32 2177026350, .int .u32 2456956037, .int .u32 2730485921, .int .u32 2820302411, .int .u32 3259730800, .int .u32 3345764771, .int .u32 3516065817, .int .u32 3600352804, .int .u32 4094571909, .int .u32 275423344, .int .u32 430227734, .int .u32 506948616, .int .u32 659060556, .int .u32 883997877, .int .u32 958139571, .int .u32 1322822218, .int .u32 1537002063, .int .u32 1747873779, .int .u32 1955562222, .int .u32 2024104815, .int .u32 2227730452, .int .u32 2361852424, .int .u32 2428436474, .int .u32 2756734187, .int .u32 3204031479, .int .u32 3329325298] t frozen
   | o => o).modify 1 fun
   | .cells _ t frozen => .cells #[.int .u32 0, .int .u32 274646895, .int .u32 549293790, .int .u32 820201905, .int .u32 1098587580, .int .u32 1361435347, .int .u32 1640403810, .int .u32 1905808397, .int .u32 2197175160, .int .u32 2460548119, .int .u32 2722870694, .int .u32 2987750089, .int .u32 3280807620, .int .u32 3553878443, .int .u32 3811616794, .int .u32 4084100981] t frozen
   | o => o) }
theorem laid_met (os : Os) : laidMet Tryz.prog Rows.wholeGrowthRow.laid ((laidWorld os).forCall (fun _ _ => 0) ⟨#[], #[(.agg #[.int .i64 0, .int .i64 0, .int .i64 0] : Value), .agg #[.int .i64 0, .int .i64 0, .bool false, .slice none 0 0, .slice none 0 0, .slice none 0 0, .int .i64 0, .int .i64 0, .bool false, .slice none 0 0, .slice none 0 0, .slice none 0 0], .slice none 0 0], []⟩).memory :=
 laidMet_of_run' 8 (by kernel_rfl) (by kernel_rfl)
theorem reads (os : Os) {H : Type} (enc : TypeId × Value → H) : ∃ places, DataW.whole enc Tryz.prog ((laidWorld os).forCall (fun _ _ => 0) ⟨#[], #[(.agg #[.int .i64 0, .int .i64 0, .int .i64 0] : Value), .agg #[.int .i64 0, .int .i64 0, .bool false, .slice none 0 0, .slice none 0 0, .slice none 0 0, .int .i64 0, .int .i64 0, .bool false, .slice none 0 0, .slice none 0 0, .slice none 0 0], .slice none 0 0], []⟩).memory Tryz.f4.params.toList Rows.wholeGrowthSpec.vars false #[(.agg #[.int .i64 0, .int .i64 0, .int .i64 0] : Value), .agg #[.int .i64 0, .int .i64 0, .bool false, .slice none 0 0, .slice none 0 0, .slice none 0 0, .int .i64 0, .int .i64 0, .bool false, .slice none 0 0, .slice none 0 0, .slice none 0 0], .slice none 0 0].toList 8 = some ([.agg [.lit (.int .i64 0), .lit (.int .i64 0), .lit (.int .i64 0)], .agg [.agg [.agg [.lit (.int .i64 0), .lit (.int .i64 0), .lit (.bool false), .nil, .nil], .nil], .agg [.agg [.lit (.int .i64 0), .lit (.int .i64 0), .lit (.bool false), .nil, .nil], .nil]], .nil], [], places) :=
 ⟨[], by kernel_rfl⟩
set_option maxRecDepth 100000 in
theorem lifted (os : Os) (started : os.Started) (H : Type) (enc : TypeId × Value → H) (F : Stop.Interp) :
  ReturnsInHanded {} Tryz.checked os 4 .any ((OpenSpec.ofChange Rows.wholeGrowthSpec).preRow enc Tryz.prog Tryz.f4 Rows.wholeGrowthRow.domain false Rows.wholeGrowthRow.laid) (((OpenSpec.ofChange Rows.wholeGrowthSpec).at F).post enc Tryz.prog Tryz.f4 false true false false) := by
 obtain ⟨places, hx⟩ := reads os enc
 refine returnsInHanded_of_row (C := Tryz.checked) (s := OpenSpec.ofChange Rows.wholeGrowthSpec) own started (by kernel_rfl) Tryz.func4
  (witness_row_at (enc := enc) (C := Tryz.checked) false (laidWorld os) #[(.agg #[.int .i64 0, .int .i64 0, .int .i64 0] : Value), .agg #[.int .i64 0, .int .i64 0, .bool false, .slice none 0 0, .slice none 0 0, .slice none 0 0, .int .i64 0, .int .i64 0, .bool false, .slice none 0 0, .slice none 0 0, .slice none 0 0], .slice none 0 0] rfl (by kernel_rfl) (by kernel_rfl) (by kernel_rfl)
   (OpenSpec.preRow_of_cond 8 hx (by kernel_rfl) (fun k hk => by cases hk) (by kernel_rfl) (laid_met os))) ?_
 intro W base args ds gs before hval hW _ _ hsz hL _ _
 exact contract H enc W base args ds gs before hval hW hsz hL
theorem jf0 : ((fun (P : Program) (f : FuncId) (fn : Func) (s : ChangeSpec) (c : OpenClaim) => (c.wf (OpenSpec.ofChange s) : Bool)) Tryz.prog 4 Tryz.f4 (OpenSpec.ofChange Rows.wholeGrowthSpec).bare Rows.wholeGrowthRow) = true := by kernel_rfl
theorem jf1 : ((fun (P : Program) (f : FuncId) (fn : Func) (s : ChangeSpec) (c : OpenClaim) => (laidOutB P : Bool)) Tryz.prog 4 Tryz.f4 (OpenSpec.ofChange Rows.wholeGrowthSpec).bare Rows.wholeGrowthRow) = true := by kernel_rfl
theorem jf2 : ((fun (P : Program) (f : FuncId) (fn : Func) (s : ChangeSpec) (c : OpenClaim) => (mapsRowed P : Bool)) Tryz.prog 4 Tryz.f4 (OpenSpec.ofChange Rows.wholeGrowthSpec).bare Rows.wholeGrowthRow) = true := by kernel_rfl
theorem jf3 : ((fun (P : Program) (f : FuncId) (fn : Func) (s : ChangeSpec) (c : OpenClaim) => (fn.params.all (P.readableRec ·) : Bool)) Tryz.prog 4 Tryz.f4 (OpenSpec.ofChange Rows.wholeGrowthSpec).bare Rows.wholeGrowthRow) = true := by kernel_rfl
theorem jf4 : ((fun (P : Program) (f : FuncId) (fn : Func) (s : ChangeSpec) (c : OpenClaim) => (namedTie P c.named s.vars : Bool)) Tryz.prog 4 Tryz.f4 (OpenSpec.ofChange Rows.wholeGrowthSpec).bare Rows.wholeGrowthRow) = true := by kernel_rfl
theorem jf5 : ((fun (P : Program) (f : FuncId) (fn : Func) (s : ChangeSpec) (c : OpenClaim) => ((c.stops == []) : Bool)) Tryz.prog 4 Tryz.f4 (OpenSpec.ofChange Rows.wholeGrowthSpec).bare Rows.wholeGrowthRow) = true := by kernel_rfl
theorem jf6 : ((fun (P : Program) (f : FuncId) (fn : Func) (s : ChangeSpec) (c : OpenClaim) => ((P.stops == []) : Bool)) Tryz.prog 4 Tryz.f4 (OpenSpec.ofChange Rows.wholeGrowthSpec).bare Rows.wholeGrowthRow) = true := by kernel_rfl
theorem jf7 : ((fun (P : Program) (f : FuncId) (fn : Func) (s : ChangeSpec) (c : OpenClaim) => ((c.knobs == []) : Bool)) Tryz.prog 4 Tryz.f4 (OpenSpec.ofChange Rows.wholeGrowthSpec).bare Rows.wholeGrowthRow) = true := by kernel_rfl
theorem jf8 : ((fun (P : Program) (f : FuncId) (fn : Func) (s : ChangeSpec) (c : OpenClaim) => ((P.stopKnobs == []) : Bool)) Tryz.prog 4 Tryz.f4 (OpenSpec.ofChange Rows.wholeGrowthSpec).bare Rows.wholeGrowthRow) = true := by kernel_rfl
theorem jf9 : ((fun (P : Program) (f : FuncId) (fn : Func) (s : ChangeSpec) (c : OpenClaim) => ((c.inPlace == P.inPlace f) : Bool)) Tryz.prog 4 Tryz.f4 (OpenSpec.ofChange Rows.wholeGrowthSpec).bare Rows.wholeGrowthRow) = true := by kernel_rfl
theorem jf10 : ((fun (P : Program) (f : FuncId) (fn : Func) (s : ChangeSpec) (c : OpenClaim) => ((c.unfollowed == P.unfollowed f) : Bool)) Tryz.prog 4 Tryz.f4 (OpenSpec.ofChange Rows.wholeGrowthSpec).bare Rows.wholeGrowthRow) = true := by kernel_rfl
theorem jf11 : ((fun (P : Program) (f : FuncId) (fn : Func) (s : ChangeSpec) (c : OpenClaim) => ((c.recurses == P.recurses f) : Bool)) Tryz.prog 4 Tryz.f4 (OpenSpec.ofChange Rows.wholeGrowthSpec).bare Rows.wholeGrowthRow) = true := by kernel_rfl
theorem jf12 : ((fun (P : Program) (f : FuncId) (fn : Func) (s : ChangeSpec) (c : OpenClaim) => ((c.named == P.varsNamed f) : Bool)) Tryz.prog 4 Tryz.f4 (OpenSpec.ofChange Rows.wholeGrowthSpec).bare Rows.wholeGrowthRow) = true := by kernel_rfl
theorem jf13 : ((fun (P : Program) (f : FuncId) (fn : Func) (s : ChangeSpec) (c : OpenClaim) => ((c.maps == (fn.params.toList ++ s.plain.varTypes P).any (P.mapsRec ·)) : Bool)) Tryz.prog 4 Tryz.f4 (OpenSpec.ofChange Rows.wholeGrowthSpec).bare Rows.wholeGrowthRow) = true := by kernel_rfl
theorem jf14 : ((fun (P : Program) (f : FuncId) (fn : Func) (s : ChangeSpec) (c : OpenClaim) => ((c.ifaces == (fn.params.toList ++ s.plain.varTypes P).any (P.ifacesRec ·)) : Bool)) Tryz.prog 4 Tryz.f4 (OpenSpec.ofChange Rows.wholeGrowthSpec).bare Rows.wholeGrowthRow) = true := by kernel_rfl
theorem jf15 : ((fun (P : Program) (f : FuncId) (fn : Func) (s : ChangeSpec) (c : OpenClaim) => ((c.mapsOut == P.mapsAmong fn.resultTypes.toList) : Bool)) Tryz.prog 4 Tryz.f4 (OpenSpec.ofChange Rows.wholeGrowthSpec).bare Rows.wholeGrowthRow) = true := by kernel_rfl
theorem jf16 : ((fun (P : Program) (f : FuncId) (fn : Func) (s : ChangeSpec) (c : OpenClaim) => ((c.loops == (fn.params.toList ++ s.plain.varTypes P).any (P.loopsFrom ·)) : Bool)) Tryz.prog 4 Tryz.f4 (OpenSpec.ofChange Rows.wholeGrowthSpec).bare Rows.wholeGrowthRow) = true := by kernel_rfl
theorem jf17 : ((fun (P : Program) (f : FuncId) (fn : Func) (s : ChangeSpec) (c : OpenClaim) => ((c.wideKeys == (fn.params.toList ++ s.plain.varTypes P ++ fn.resultTypes.toList).any (P.wideKeysFrom ·)) : Bool)) Tryz.prog 4 Tryz.f4 (OpenSpec.ofChange Rows.wholeGrowthSpec).bare Rows.wholeGrowthRow) = true := by kernel_rfl
theorem jf18 : ((fun (P : Program) (f : FuncId) (fn : Func) (s : ChangeSpec) (c : OpenClaim) => (s.vars.all (P.varReadable ·) : Bool)) Tryz.prog 4 Tryz.f4 (OpenSpec.ofChange Rows.wholeGrowthSpec).bare Rows.wholeGrowthRow) = true := by kernel_rfl
theorem jf19 : ((fun (P : Program) (f : FuncId) (fn : Func) (s : ChangeSpec) (c : OpenClaim) => (fn.resultTypes.all (fun t => P.readableRec t && decide (t < P.types.size)) : Bool)) Tryz.prog 4 Tryz.f4 (OpenSpec.ofChange Rows.wholeGrowthSpec).bare Rows.wholeGrowthRow) = true := by kernel_rfl
theorem jf20 : ((fun (P : Program) (f : FuncId) (fn : Func) (s : ChangeSpec) (c : OpenClaim) => ((c.ifacesOut == fn.resultTypes.toList.any (P.ifacesRec ·)) : Bool)) Tryz.prog 4 Tryz.f4 (OpenSpec.ofChange Rows.wholeGrowthSpec).bare Rows.wholeGrowthRow) = true := by kernel_rfl
theorem jf21 : ((fun (P : Program) (f : FuncId) (fn : Func) (s : ChangeSpec) (c : OpenClaim) => ((c.loopsOut == fn.resultTypes.toList.any (P.loopsFrom ·)) : Bool)) Tryz.prog 4 Tryz.f4 (OpenSpec.ofChange Rows.wholeGrowthSpec).bare Rows.wholeGrowthRow) = true := by kernel_rfl
theorem jf22 : ((fun (P : Program) (f : FuncId) (fn : Func) (s : ChangeSpec) (c : OpenClaim) => ((c.plainKeys == P.plainKeys) : Bool)) Tryz.prog 4 Tryz.f4 (OpenSpec.ofChange Rows.wholeGrowthSpec).bare Rows.wholeGrowthRow) = true := by kernel_rfl
theorem jf23 : ((fun (P : Program) (f : FuncId) (fn : Func) (s : ChangeSpec) (c : OpenClaim) => (c.shortTexts.isNone : Bool)) Tryz.prog 4 Tryz.f4 (OpenSpec.ofChange Rows.wholeGrowthSpec).bare Rows.wholeGrowthRow) = true := by kernel_rfl
theorem jf24 : ((fun (P : Program) (f : FuncId) (fn : Func) (s : ChangeSpec) (c : OpenClaim) => (P.stopsHeard : Bool)) Tryz.prog 4 Tryz.f4 (OpenSpec.ofChange Rows.wholeGrowthSpec).bare Rows.wholeGrowthRow) = true := by kernel_rfl
theorem jf28 : ((fun (P : Program) (f : FuncId) (fn : Func) (s : ChangeSpec) (c : OpenClaim) => ((c.kinds == (if c.domain.isEmpty then [] else fn.params.toList.map fun t => match P.underlying t with | some (.int k) => some k | _ => none)) : Bool)) Tryz.prog 4 Tryz.f4 (OpenSpec.ofChange Rows.wholeGrowthSpec).bare Rows.wholeGrowthRow) = true := by kernel_rfl
theorem jf29 : ((fun (P : Program) (f : FuncId) (fn : Func) (s : ChangeSpec) (c : OpenClaim) => ((c.pinned == c.pinnedBy) : Bool)) Tryz.prog 4 Tryz.f4 (OpenSpec.ofChange Rows.wholeGrowthSpec).bare Rows.wholeGrowthRow) = true := by kernel_rfl
theorem jf30 : ((fun (P : Program) (f : FuncId) (fn : Func) (s : ChangeSpec) (c : OpenClaim) => ((c.veiled == (fn.params.toList ++ s.plain.varTypes P ++ fn.resultTypes.toList).any (P.veiledRec ·)) : Bool)) Tryz.prog 4 Tryz.f4 (OpenSpec.ofChange Rows.wholeGrowthSpec).bare Rows.wholeGrowthRow) = true := by kernel_rfl
theorem jf31 : ((fun (P : Program) (f : FuncId) (fn : Func) (s : ChangeSpec) (c : OpenClaim) => (c.veiledFits P fn.params.toList (fn.params.toList ++ s.plain.varTypes P ++ fn.resultTypes.toList) : Bool)) Tryz.prog 4 Tryz.f4 (OpenSpec.ofChange Rows.wholeGrowthSpec).bare Rows.wholeGrowthRow) = true := by kernel_rfl
set_option maxRecDepth 100000 in
theorem said : Rows.WholeGrowthSaid :=
 OpenClaim.holds_of_cond 4 Tryz.f4 rfl rfl rfl rfl rfl rfl rfl ⟨rfl, rfl, rfl, rfl, rfl⟩ rfl rfl rfl rfl rfl (by kernel_rfl) Tryz.func4 (qh jf0 jf1 jf2 jf3 jf4 jf5 jf6 jf7 jf8 jf9 jf10 jf11 jf12 jf13 jf14 jf15 jf16 jf17 jf18 jf19 jf20 jf21 jf22 jf23 jf24 nD ql rJ jf28 jf29 jf30 jf31)
  (of_decide_eq_true (by kernel_rfl)) (by unfold Func.isWrapper; first | (rw [if_pos (by decide +kernel)]; kernel_rfl) | (rw [if_neg (by decide +kernel)]; exact ⟨rfl, rfl⟩))
  (fun os started H enc _ F => by rw [OpenClaim.pre_eq_preRow]; exact lifted os started H enc F)
theorem plain (f : FuncId) (fn : Func) (hf : Tryz.pinned.checked.prog.funcNamed "indenture/indenturetop.WholeGrowth" = some f) (hfn : Tryz.pinned.checked.prog.funcs[f]? = some fn) :
  false = Tryz.pinned.checked.prog.looks [] ∧ ∀ (j : Nat) t, fn.params[j]? = some t → Tryz.pinned.checked.prog.wantsStandIn t = false := by
 obtain rfl : f = 4 := Option.some.inj ((show Tryz.prog.funcNamed "indenture/indenturetop.WholeGrowth" = some 4 by kernel_rfl).symm.trans hf) |>.symm
 obtain rfl : fn = Tryz.f4 := (Option.some.inj (Tryz.func4.symm.trans hfn)).symm
 refine ⟨by kernel_rfl, fun j t ht => ?_⟩
 rw [Tryz.params4] at ht
 have hm := Array.mem_of_getElem? ht
 simp only [List.mem_toArray, List.mem_cons, List.not_mem_nil, or_false] at hm
 rcases hm with rfl | rfl | rfl
 ·exact (show Tryz.prog.wantsStandIn 45 = false by kernel_rfl)
 ·exact (show Tryz.prog.wantsStandIn 29 = false by kernel_rfl)
 exact (show Tryz.prog.wantsStandIn 26 = false by kernel_rfl)
theorem proved : Rows.WholeGrowthCardSaid :=
 Claim7.holds_tied_plain_at .later [] _ _ _ _ said (fun _ h => by cases h) (by kernel_rfl) (fun _ h => by cases h) wholeGrowth_row_tie rfl ⟨rfl, rfl⟩ rI rfl plain (by kernel_rfl)
#print axioms proved
end Go.Proofs.YtdencdfdikmgbaaGreatDoor.lawWholeGrowth
