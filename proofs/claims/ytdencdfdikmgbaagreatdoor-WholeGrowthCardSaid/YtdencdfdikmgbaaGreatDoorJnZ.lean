/-
 The closed facts of a row, one by one: together they are too many for one run of the kernel at a program of this size.
-/
import Derived.Test.YtdencdfdikmgbaaGreatDoorRows
import Derived.JoinedOf
import Derived.KernelRfl
set_option linter.unusedVariables false
set_option linter.unusedSimpArgs false
namespace Go.Proofs.YtdencdfdikmgbaaGreatDoor
open Go
theorem qh {P : Program} {f : FuncId} {fn : Func} {s : ChangeSpec} {c : OpenClaim}
  (h0 : (c.wf (OpenSpec.ofChange s) : Bool) = true)
  (h1 : (laidOutB P : Bool) = true)
  (h2 : (mapsRowed P : Bool) = true)
  (h3 : (fn.params.all (P.readableRec ·) : Bool) = true)
  (h4 : (namedTie P c.named s.vars : Bool) = true)
  (h5 : ((c.stops == []) : Bool) = true)
  (h6 : ((P.stops == []) : Bool) = true)
  (h7 : ((c.knobs == []) : Bool) = true)
  (h8 : ((P.stopKnobs == []) : Bool) = true)
  (h9 : ((c.inPlace == P.inPlace f) : Bool) = true)
  (h10 : ((c.unfollowed == P.unfollowed f) : Bool) = true)
  (h11 : ((c.recurses == P.recurses f) : Bool) = true)
  (h12 : ((c.named == P.varsNamed f) : Bool) = true)
  (h13 : ((c.maps == (fn.params.toList ++ s.plain.varTypes P).any (P.mapsRec ·)) : Bool) = true)
  (h14 : ((c.ifaces == (fn.params.toList ++ s.plain.varTypes P).any (P.ifacesRec ·)) : Bool) = true)
  (h15 : ((c.mapsOut == P.mapsAmong fn.resultTypes.toList) : Bool) = true)
  (h16 : ((c.loops == (fn.params.toList ++ s.plain.varTypes P).any (P.loopsFrom ·)) : Bool) = true)
  (h17 : ((c.wideKeys == (fn.params.toList ++ s.plain.varTypes P ++ fn.resultTypes.toList).any (P.wideKeysFrom ·)) : Bool) = true)
  (h18 : (s.vars.all (P.varReadable ·) : Bool) = true)
  (h19 : (fn.resultTypes.all (fun t => P.readableRec t && decide (t < P.types.size)) : Bool) = true)
  (h20 : ((c.ifacesOut == fn.resultTypes.toList.any (P.ifacesRec ·)) : Bool) = true)
  (h21 : ((c.loopsOut == fn.resultTypes.toList.any (P.loopsFrom ·)) : Bool) = true)
  (h22 : ((c.plainKeys == P.plainKeys) : Bool) = true)
  (h23 : (c.shortTexts.isNone : Bool) = true)
  (h24 : (P.stopsHeard : Bool) = true)
  (h25 : (P.mayEnter : Bool) = true)
  (h26 : ((c.lifted == P.liftsFinal) : Bool) = true)
  (h27 : ((P.make == some c.make) : Bool) = true)
  (h28 : ((c.kinds == (if c.domain.isEmpty then [] else fn.params.toList.map fun t => match P.underlying t with | some (.int k) => some k | _ => none)) : Bool) = true)
  (h29 : ((c.pinned == c.pinnedBy) : Bool) = true)
  (h30 : ((c.veiled == (fn.params.toList ++ s.plain.varTypes P ++ fn.resultTypes.toList).any (P.veiledRec ·)) : Bool) = true)
  (h31 : (c.veiledFits P fn.params.toList (fn.params.toList ++ s.plain.varTypes P ++ fn.resultTypes.toList) : Bool) = true)
  : joinedFacts P f fn s c = true := by
 simp only [joinedFacts, Bool.and_eq_true]
 exact ⟨⟨⟨⟨⟨⟨⟨⟨⟨⟨⟨⟨⟨⟨⟨⟨⟨⟨⟨⟨⟨⟨⟨⟨⟨⟨⟨⟨⟨⟨⟨h0, h1⟩, h2⟩, h3⟩, h4⟩, h5⟩, h6⟩, h7⟩, h8⟩, h9⟩, h10⟩, h11⟩, h12⟩, h13⟩, h14⟩, h15⟩, h16⟩, h17⟩, h18⟩, h19⟩, h20⟩, h21⟩, h22⟩, h23⟩, h24⟩, h25⟩, h26⟩, h27⟩, h28⟩, h29⟩, h30⟩, h31⟩
theorem cD : ∀ (w r : List Char), w.all (· != Char.ofNat 32) = true → wordsSigns (w ++ (Char.ofNat 32) :: r) = w :: wordsSigns r
 | [], r, _ => by rw [List.nil_append, wordsSigns]
 | c :: w, r, h => by
  have hc : c ≠ Char.ofNat 32 := by simpa using (List.all_eq_true.mp h) c (List.mem_cons_self ..)
  have hw : w.all (· != Char.ofNat 32) = true := by simp only [List.all_cons, Bool.and_eq_true] at h; exact h.2
  rw [List.cons_append, wordsSigns, cD w r hw]
  exact fun e => hc e
def lY : List Char := [104, 97, 114, 110, 101, 115, 115].map Char.ofNat
set_option maxRecDepth 100000 in
def iA : List Char := [49, 52, 51, 97, 55, 52, 57, 101, 57, 51, 50, 97, 99, 50, 50, 55, 53, 100, 97, 97, 57, 98, 55, 55, 100, 101, 99, 102, 55, 101, 99, 50, 55, 99, 52, 101, 100, 99, 101, 53, 56, 53, 55, 57, 49, 57, 99, 101, 102, 98, 50, 49, 52, 54, 101, 102, 50, 100, 56, 99, 54, 98, 48, 51].map Char.ofNat
def fH : List Char := [99, 117, 116].map Char.ofNat
set_option maxRecDepth 100000 in
def rF : List Char := [97, 116, 32, 105, 110, 100, 101, 110, 116, 117, 114, 101, 47, 105, 110, 100, 101, 110, 116, 117, 114, 101, 116, 111, 112, 46, 87, 104, 111, 108, 101, 83, 111, 117, 110, 100, 32, 105, 110, 100, 101, 110, 116, 117, 114, 101, 47, 105, 110, 100, 101, 110, 116, 117, 114, 101, 116, 111, 112, 46, 87, 104, 111, 108, 101, 71, 114, 111, 119, 116, 104].map Char.ofNat
theorem lZ : Tryz.prog.initOrder = String.ofList (lY ++ (Char.ofNat 32) :: (iA ++ (Char.ofNat 32) :: (fH ++ (Char.ofNat 32) :: rF))) := by kernel_rfl
theorem gO : behindMainWord (wordsSigns Tryz.prog.initOrder.toList) = fH :: wordsSigns rF := by
 rw [lZ, String.toList_ofList, cD lY _ (by kernel_rfl), cD iA _ (by kernel_rfl), cD fH _ (by kernel_rfl)]
 simp only [behindMainWord]
 exact if_pos (by kernel_rfl)
theorem nB (P : Program) (ws : List (List Char)) (h : behindMainWord (wordsSigns P.initOrder.toList) = fH :: ws) (hl : P.laysLater = false) (hb : P.bearsReflect = false) (hd : P.doorFits [] = true) : P.mayEnter = true := by
 have e : stripLifts liftWords (fH :: ws) = ([], fH :: ws) := by kernel_rfl
 unfold Program.mayEnter
 rw [h]
 simp only [e, hl, hb, hd]
 exact (Bool.or_eq_true _ _).mpr (Or.inr (by kernel_rfl))
theorem qi (P : Program) (ws : List (List Char)) (h : behindMainWord (wordsSigns P.initOrder.toList) = fH :: ws) : (false == P.liftsFinal) = true := by
 unfold Program.liftsFinal Program.headLifts
 rw [h]
 kernel_rfl
theorem rG (P : Program) (ws : List (List Char)) (h : behindMainWord (wordsSigns P.initOrder.toList) = fH :: ws) : (P.make == some .cut) = true := by
 unfold Program.make
 rw [h]
 kernel_rfl
theorem qj : wordsSigns Tryz.prog.initOrder.toList = lY :: iA :: fH :: wordsSigns rF := by
 rw [lZ, String.toList_ofList, cD lY _ (by kernel_rfl), cD iA _ (by kernel_rfl), cD fH _ (by kernel_rfl)]
theorem nC (P : Program) (r : List (List Char)) (h : wordsSigns P.initOrder.toList = lY :: iA :: r) : P.mainIs = some (true, iA) := by
 unfold Program.mainIs
 rw [h]
 kernel_rfl
theorem rH : iA = "143a749e932ac2275daa9b77decf7ec27c4edce5857919cefb2146ef2d8c6b03".toList := ((congrArg String.toList (show "143a749e932ac2275daa9b77decf7ec27c4edce5857919cefb2146ef2d8c6b03" = String.ofList iA by kernel_rfl)).trans String.toList_ofList).symm
theorem rI : Tryz.prog.mainIs = some (true, "143a749e932ac2275daa9b77decf7ec27c4edce5857919cefb2146ef2d8c6b03".toList) := (nC _ _ qj).trans (by rw [rH])
theorem nD : Tryz.prog.mayEnter = true := nB _ _ gO (by kernel_rfl) (by kernel_rfl) (by kernel_rfl)
theorem ql : (Rows.wholeSoundRow.lifted == Tryz.prog.liftsFinal) = true := qi _ _ gO
theorem rJ : (Tryz.prog.make == some Rows.wholeSoundRow.make) = true := rG _ _ gO
end Go.Proofs.YtdencdfdikmgbaaGreatDoor
