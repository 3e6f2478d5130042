/-
  The closed facts of a row, one by one: together they are too many for one run of the kernel at a program of this size.
-/
import Derived.Test.YtkfkdakghjlenaaDoorRows
import Derived.JoinedOf
import Derived.KernelRfl
set_option linter.unusedVariables false
set_option linter.unusedSimpArgs false
namespace Go.Proofs.YtkfkdakghjlenaaDoor
open Go
theorem joined_of {P : Program} {f : FuncId} {fn : Func} {s : ChangeSpec} {c : OpenClaim}
    (h0 : (c.wf (OpenSpec.ofChange s) : Bool) = true)
    (h1 : (laidOutB P : Bool) = true)
    (h2 : (mapsRowed P : Bool) = true)
    (h3 : (fn.params.all (P.readableRec ·) : Bool) = true)
    (h4 : (namedTie P c.named s.vars : Bool) = true)
    (h5 : ((c.stops == []) : Bool) = true)
    (h6 : ((P.stops == []) : Bool) = true)
    (h7 : ((c.knobs == []) : Bool) = true)
    (h8 : ((P.stopKnobs == []) : Bool) = true)
    (h9 : ((c.inPlace == P.inPlace f) : Bool) = true)
    (h10 : ((c.unfollowed == P.unfollowed f) : Bool) = true)
    (h11 : ((c.recurses == P.recurses f) : Bool) = true)
    (h12 : ((c.named == P.varsNamed f) : Bool) = true)
    (h13 : ((c.maps == (fn.params.toList ++ s.plain.varTypes P).any (P.mapsRec ·)) : Bool) = true)
    (h14 : ((c.ifaces == (fn.params.toList ++ s.plain.varTypes P).any (P.ifacesRec ·)) : Bool) = true)
    (h15 : ((c.mapsOut == P.mapsAmong fn.resultTypes.toList) : Bool) = true)
    (h16 : ((c.loops == (fn.params.toList ++ s.plain.varTypes P).any (P.loopsFrom ·)) : Bool) = true)
    (h17 : ((c.wideKeys == (fn.params.toList ++ s.plain.varTypes P ++ fn.resultTypes.toList).any (P.wideKeysFrom ·)) : Bool) = true)
    (h18 : (s.vars.all (P.varReadable ·) : Bool) = true)
    (h19 : (fn.resultTypes.all (fun t => P.readableRec t && decide (t < P.types.size)) : Bool) = true)
    (h20 : ((c.ifacesOut == fn.resultTypes.toList.any (P.ifacesRec ·)) : Bool) = true)
    (h21 : ((c.loopsOut == fn.resultTypes.toList.any (P.loopsFrom ·)) : Bool) = true)
    (h22 : ((c.plainKeys == P.plainKeys) : Bool) = true)
    (h23 : (c.shortTexts.isNone : Bool) = true)
    (h24 : (P.stopsHeard : Bool) = true)
    (h25 : (P.mayEnter : Bool) = true)
    (h26 : ((c.lifted == P.liftsFinal) : Bool) = true)
    (h27 : ((P.make == some c.make) : Bool) = true)
    (h28 : ((c.kinds == (if c.domain.isEmpty then [] else fn.params.toList.map fun t => match P.underlying t with | some (.int k) => some k | _ => none)) : Bool) = true)
    (h29 : ((c.pinned == c.pinnedBy) : Bool) = true)
    (h30 : ((c.veiled == (fn.params.toList ++ s.plain.varTypes P ++ fn.resultTypes.toList).any (P.veiledRec ·)) : Bool) = true)
    (h31 : (c.veiledFits P fn.params.toList (fn.params.toList ++ s.plain.varTypes P ++ fn.resultTypes.toList) : Bool) = true)
    : joinedFacts P f fn s c = true := by
  simp only [joinedFacts, Bool.and_eq_true]
  exact ⟨⟨⟨⟨⟨⟨⟨⟨⟨⟨⟨⟨⟨⟨⟨⟨⟨⟨⟨⟨⟨⟨⟨⟨⟨⟨⟨⟨⟨⟨⟨h0, h1⟩, h2⟩, h3⟩, h4⟩, h5⟩, h6⟩, h7⟩, h8⟩, h9⟩, h10⟩, h11⟩, h12⟩, h13⟩, h14⟩, h15⟩, h16⟩, h17⟩, h18⟩, h19⟩, h20⟩, h21⟩, h22⟩, h23⟩, h24⟩, h25⟩, h26⟩, h27⟩, h28⟩, h29⟩, h30⟩, h31⟩
theorem words_step : ∀ (w r : List Char), w.all (· != Char.ofNat 32) = true → wordsSigns (w ++ (Char.ofNat 32) :: r) = w :: wordsSigns r
  | [], r, _ => by rw [List.nil_append, wordsSigns]
  | c :: w, r, h => by
    have hc : c ≠ Char.ofNat 32 := by simpa using (List.all_eq_true.mp h) c (List.mem_cons_self ..)
    have hw : w.all (· != Char.ofNat 32) = true := by simp only [List.all_cons, Bool.and_eq_true] at h; exact h.2
    rw [List.cons_append, wordsSigns, words_step w r hw]
    exact fun e => hc e
def headA : List Char := [104, 97, 114, 110, 101, 115, 115].map Char.ofNat
set_option maxRecDepth 100000 in
def headB : List Char := [98, 50, 57, 52, 97, 51, 49, 55, 99, 51, 54, 97, 51, 52, 100, 102, 52, 57, 55, 100, 98, 54, 56, 102, 100, 53, 53, 98, 99, 48, 98, 55, 56, 102, 54, 53, 100, 100, 102, 98, 100, 102, 102, 49, 102, 51, 97, 52, 101, 49, 50, 97, 53, 50, 100, 57, 57, 99, 50, 50, 53, 57, 99, 101].map Char.ofNat
def headC : List Char := [99, 117, 116].map Char.ofNat
set_option maxRecDepth 100000 in
def headR : List Char := [97, 116, 32, 105, 110, 100, 101, 110, 116, 117, 114, 101, 47, 105, 110, 100, 101, 110, 116, 117, 114, 101, 108, 97, 119, 50, 55, 46, 77, 117, 108, 116, 105, 80, 114, 111, 118, 101, 115, 32, 105, 110, 100, 101, 110, 116, 117, 114, 101, 47, 105, 110, 100, 101, 110, 116, 117, 114, 101, 108, 97, 119, 49, 50, 46, 77, 101, 109, 98, 101, 114, 78, 111, 110, 101, 32, 105, 110, 100, 101, 110, 116, 117, 114, 101, 47, 105, 110, 100, 101, 110, 116, 117, 114, 101, 108, 97, 119, 49, 50, 46, 77, 101, 109, 98, 101, 114, 67, 104, 101, 99, 107, 115, 32, 105, 110, 100, 101, 110, 116, 117, 114, 101, 47, 105, 110, 100, 101, 110, 116, 117, 114, 101, 108, 97, 119, 49, 49, 46, 84, 114, 105, 101, 66, 105, 116, 115, 32, 105, 110, 100, 101, 110, 116, 117, 114, 101, 47, 105, 110, 100, 101, 110, 116, 117, 114, 101, 108, 97, 119, 49, 49, 46, 84, 114, 105, 101, 71, 101, 116, 115, 32, 105, 110, 100, 101, 110, 116, 117, 114, 101, 47, 105, 110, 100, 101, 110, 116, 117, 114, 101, 108, 97, 119, 49, 49, 46, 84, 114, 105, 101, 65, 99, 116, 115, 32, 105, 110, 100, 101, 110, 116, 117, 114, 101, 47, 105, 110, 100, 101, 110, 116, 117, 114, 101, 108, 97, 119, 49, 49, 46, 84, 114, 105, 101, 79, 114, 100, 101, 114, 32, 105, 110, 100, 101, 110, 116, 117, 114, 101, 47, 105, 110, 100, 101, 110, 116, 117, 114, 101, 108, 97, 119, 49, 49, 46, 84, 114, 105, 101, 78, 111, 110, 101, 32, 105, 110, 100, 101, 110, 116, 117, 114, 101, 47, 105, 110, 100, 101, 110, 116, 117, 114, 101, 108, 97, 119, 49, 49, 46, 84, 114, 105, 101, 65, 108, 105, 107, 101, 32, 105, 110, 100, 101, 110, 116, 117, 114, 101, 47, 105, 110, 100, 101, 110, 116, 117, 114, 101, 108, 97, 119, 49, 50, 46, 77, 101, 109, 98, 101, 114, 80, 114, 111, 118, 101, 115, 32, 105, 110, 100, 101, 110, 116, 117, 114, 101, 47, 105, 110, 100, 101, 110, 116, 117, 114, 101, 108, 97, 119, 49, 50, 46, 77, 101, 109, 98, 101, 114, 72, 111, 108, 100, 115, 32, 105, 110, 100, 101, 110, 116, 117, 114, 101, 47, 105, 110, 100, 101, 110, 116, 117, 114, 101, 108, 97, 119, 49, 50, 46, 77, 101, 109, 98, 101, 114, 79, 116, 104, 101, 114, 115, 32, 105, 110, 100, 101, 110, 116, 117, 114, 101, 47, 105, 110, 100, 101, 110, 116, 117, 114, 101, 108, 97, 119, 49, 50, 46, 77, 101, 109, 98, 101, 114, 67, 104, 97, 110, 103, 101, 115, 32, 105, 110, 100, 101, 110, 116, 117, 114, 101, 47, 105, 110, 100, 101, 110, 116, 117, 114, 101, 108, 97, 119, 50, 55, 46, 77, 117, 108, 116, 105, 67, 104, 101, 99, 107, 115, 32, 105, 110, 100, 101, 110, 116, 117, 114, 101, 47, 105, 110, 100, 101, 110, 116, 117, 114, 101, 108, 97, 119, 50, 55, 46, 77, 117, 108, 116, 105, 79, 116, 104, 101, 114, 115, 32, 105, 110, 100, 101, 110, 116, 117, 114, 101, 47, 105, 110, 100, 101, 110, 116, 117, 114, 101, 108, 97, 119, 50, 55, 46, 77, 117, 108, 116, 105, 72, 111, 108, 100, 115, 32, 105, 110, 100, 101, 110, 116, 117, 114, 101, 47, 105, 110, 100, 101, 110, 116, 117, 114, 101, 108, 97, 119, 50, 55, 46, 77, 117, 108, 116, 105, 66, 97, 99, 107].map Char.ofNat
theorem headText : Tryd.prog.initOrder = String.ofList (headA ++ (Char.ofNat 32) :: (headB ++ (Char.ofNat 32) :: (headC ++ (Char.ofNat 32) :: headR))) := by kernel_rfl
theorem headSigns : behindMainWord (wordsSigns Tryd.prog.initOrder.toList) = headC :: wordsSigns headR := by
  rw [headText, String.toList_ofList, words_step headA _ (by kernel_rfl), words_step headB _ (by kernel_rfl), words_step headC _ (by kernel_rfl)]
  simp only [behindMainWord]
  exact if_pos (by kernel_rfl)
theorem enters_gen (P : Program) (ws : List (List Char)) (h : behindMainWord (wordsSigns P.initOrder.toList) = headC :: ws) (hl : P.laysLater = false) (hb : P.bearsReflect = false) (hd : P.doorFits [] = true) : P.mayEnter = true := by
  have e : stripLifts liftWords (headC :: ws) = ([], headC :: ws) := by kernel_rfl
  unfold Program.mayEnter
  rw [h]
  simp only [e, hl, hb, hd]
  exact (Bool.or_eq_true _ _).mpr (Or.inr (by kernel_rfl))
theorem lifts_gen (P : Program) (ws : List (List Char)) (h : behindMainWord (wordsSigns P.initOrder.toList) = headC :: ws) : (false == P.liftsFinal) = true := by
  unfold Program.liftsFinal Program.headLifts
  rw [h]
  kernel_rfl
theorem make_gen (P : Program) (ws : List (List Char)) (h : behindMainWord (wordsSigns P.initOrder.toList) = headC :: ws) : (P.make == some .cut) = true := by
  unfold Program.make
  rw [h]
  kernel_rfl
theorem headWords : wordsSigns Tryd.prog.initOrder.toList = headA :: headB :: headC :: wordsSigns headR := by
  rw [headText, String.toList_ofList, words_step headA _ (by kernel_rfl), words_step headB _ (by kernel_rfl), words_step headC _ (by kernel_rfl)]
theorem mainIs_gen (P : Program) (r : List (List Char)) (h : wordsSigns P.initOrder.toList = headA :: headB :: r) : P.mainIs = some (true, headB) := by
  unfold Program.mainIs
  rw [h]
  kernel_rfl
theorem headB_eq : headB = "b294a317c36a34df497db68fd55bc0b78f65ddfbdff1f3a4e12a52d99c2259ce".toList := ((congrArg String.toList (show "b294a317c36a34df497db68fd55bc0b78f65ddfbdff1f3a4e12a52d99c2259ce" = String.ofList headB by kernel_rfl)).trans String.toList_ofList).symm
theorem main_all : Tryd.prog.mainIs = some (true, "b294a317c36a34df497db68fd55bc0b78f65ddfbdff1f3a4e12a52d99c2259ce".toList) := (mainIs_gen _ _ headWords).trans (by rw [headB_eq])
theorem enters_all : Tryd.prog.mayEnter = true := enters_gen _ _ headSigns (by kernel_rfl) (by kernel_rfl) (by kernel_rfl)
theorem lifts_all : (Rows.memberNoneRow.lifted == Tryd.prog.liftsFinal) = true := lifts_gen _ _ headSigns
theorem make_all : (Tryd.prog.make == some Rows.memberNoneRow.make) = true := make_gen _ _ headSigns
end Go.Proofs.YtkfkdakghjlenaaDoor
