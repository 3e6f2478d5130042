/-
  DERIVED. GIVEN WITH THE SEED: THE CARDS: each row of YtdbdconmcgcooaaDoorRows.lean that lists a variable, with what it lists TIED to the program's text (the seventh form; the later family's looks); each row that meets fmt, with fmt's text TOLD by the authors' own Lean function (tested against real Go, not proved from fmt's source: count such statements apart). THE CARD IS WHAT COUNTS. Prove the row's statement (the work); the ties are given (YtdbdconmcgcooaaDoorTie.lean); close each card by the builder's one call (the guide's Derived/Test/ToyasCard.lean, 'card_holds'). Laid BY PROGRAM, IN A SANDBOX (cutbox-door.mjs). By AI agents, Wed Nov 11 2026. No macro, syntax, notation, axiom, sorry.
-/
import Derived.Test.YtdbdconmcgcooaaDoorRows
import GoSem.ClaimSeven
namespace Go.Proofs.YtdbdconmcgcooaaDoor
namespace Rows

/-- THE TIED CARD OF 'indenturelaw03.ShaSums'. -/
def shaSumsCard : Claim7 := { stood := { row := shaSumsRow, standIns := [], harness := (true, "c229dad286e99b07b0ae7950808c2d5ba446c251acf485627dc54c5e9d1f7410"), looks := false }, kinds := [], alts := [], laidByText := true, laidKinds := [.data], laidTests := true, laidLooks := .later }
def ShaSumsCardSaid : Prop := Claim7.holds Tryd.pinned (.plain (OpenSpec.ofChange shaSumsSpec)) shaSumsCard

/-- THE TIED CARD OF 'indenturelaw02.SumJoins'. -/
def sumJoinsCard : Claim7 := { stood := { row := sumJoinsRow, standIns := [], harness := (true, "c229dad286e99b07b0ae7950808c2d5ba446c251acf485627dc54c5e9d1f7410"), looks := false }, kinds := [], alts := [], laidByText := true, laidKinds := [.data], laidTests := true, laidLooks := .later }
def SumJoinsCardSaid : Prop := Claim7.holds Tryd.pinned (.plain (OpenSpec.ofChange sumJoinsSpec)) sumJoinsCard

/-- THE TIED CARD OF 'indenturelaw04.TagBytes'. -/
def tagBytesCard : Claim7 := { stood := { row := tagBytesRow, standIns := [], harness := (true, "c229dad286e99b07b0ae7950808c2d5ba446c251acf485627dc54c5e9d1f7410"), looks := false }, kinds := [], alts := [], laidByText := true, laidKinds := [.data], laidTests := true, laidLooks := .later }
def TagBytesCardSaid : Prop := Claim7.holds Tryd.pinned (.plain (OpenSpec.ofChange tagBytesSpec)) tagBytesCard

/-- THE TIED CARD OF 'indenturelaw04.TagSides'. -/
def tagSidesCard : Claim7 := { stood := { row := tagSidesRow, standIns := [], harness := (true, "c229dad286e99b07b0ae7950808c2d5ba446c251acf485627dc54c5e9d1f7410"), looks := false }, kinds := [], alts := [], laidByText := true, laidKinds := [.data], laidTests := true, laidLooks := .later }
def TagSidesCardSaid : Prop := Claim7.holds Tryd.pinned (.plain (OpenSpec.ofChange tagSidesSpec)) tagSidesCard

/-- THE TIED CARD OF 'indenturelaw04.TagForks'. -/
def tagForksCard : Claim7 := { stood := { row := tagForksRow, standIns := [], harness := (true, "c229dad286e99b07b0ae7950808c2d5ba446c251acf485627dc54c5e9d1f7410"), looks := false }, kinds := [], alts := [], laidByText := true, laidKinds := [.data], laidTests := true, laidLooks := .later }
def TagForksCardSaid : Prop := Claim7.holds Tryd.pinned (.plain (OpenSpec.ofChange tagForksSpec)) tagForksCard

/-- THE TIED CARD OF 'indenturelaw02.SumFrames'. -/
def sumFramesCard : Claim7 := { stood := { row := sumFramesRow, standIns := [], harness := (true, "c229dad286e99b07b0ae7950808c2d5ba446c251acf485627dc54c5e9d1f7410"), looks := false }, kinds := [], alts := [], laidByText := true, laidKinds := [.data], laidTests := true, laidLooks := .later }
def SumFramesCardSaid : Prop := Claim7.holds Tryd.pinned (.plain (OpenSpec.ofChange sumFramesSpec)) sumFramesCard

/-- THE TIED CARD OF 'indenturelaw02.SumBack'. -/
def sumBackCard : Claim7 := { stood := { row := sumBackRow, standIns := [], harness := (true, "c229dad286e99b07b0ae7950808c2d5ba446c251acf485627dc54c5e9d1f7410"), looks := false }, kinds := [], alts := [], laidByText := true, laidKinds := [.data], laidTests := true, laidLooks := .later }
def SumBackCardSaid : Prop := Claim7.holds Tryd.pinned (.plain (OpenSpec.ofChange sumBackSpec)) sumBackCard

/-- THE TIED CARD OF 'indenturelaw02.SumFlips'. -/
def sumFlipsCard : Claim7 := { stood := { row := sumFlipsRow, standIns := [], harness := (true, "c229dad286e99b07b0ae7950808c2d5ba446c251acf485627dc54c5e9d1f7410"), looks := false }, kinds := [], alts := [], laidByText := true, laidKinds := [.data], laidTests := true, laidLooks := .later }
def SumFlipsCardSaid : Prop := Claim7.holds Tryd.pinned (.plain (OpenSpec.ofChange sumFlipsSpec)) sumFlipsCard

/-- THE TIED CARD OF 'indenturelaw04.TagApart'. -/
def tagApartCard : Claim7 := { stood := { row := tagApartRow, standIns := [], harness := (true, "c229dad286e99b07b0ae7950808c2d5ba446c251acf485627dc54c5e9d1f7410"), looks := false }, kinds := [], alts := [], laidByText := true, laidKinds := [.data], laidTests := true, laidLooks := .later }
def TagApartCardSaid : Prop := Claim7.holds Tryd.pinned (.plain (OpenSpec.ofChange tagApartSpec)) tagApartCard

/-- THE TIED CARD OF 'indenturelaw04.TagHashes'. -/
def tagHashesCard : Claim7 := { stood := { row := tagHashesRow, standIns := [], harness := (true, "c229dad286e99b07b0ae7950808c2d5ba446c251acf485627dc54c5e9d1f7410"), looks := false }, kinds := [], alts := [], laidByText := true, laidKinds := [.data], laidTests := true, laidLooks := .later }
def TagHashesCardSaid : Prop := Claim7.holds Tryd.pinned (.plain (OpenSpec.ofChange tagHashesSpec)) tagHashesCard

/-- THE TIED CARD OF 'indenturelaw03.ShaDigits'. -/
def shaDigitsCard : Claim7 := { stood := { row := shaDigitsRow, standIns := [], harness := (true, "c229dad286e99b07b0ae7950808c2d5ba446c251acf485627dc54c5e9d1f7410"), looks := false }, kinds := [], alts := [], laidByText := true, laidKinds := [.data], laidTests := true, laidLooks := .later }
def ShaDigitsCardSaid : Prop := Claim7.holds Tryd.pinned (.plain (OpenSpec.ofChange shaDigitsSpec)) shaDigitsCard

/-- THE TIED CARD OF 'indenturelaw03.ShaHexes'. -/
def shaHexesCard : Claim7 := { stood := { row := shaHexesRow, standIns := [], harness := (true, "c229dad286e99b07b0ae7950808c2d5ba446c251acf485627dc54c5e9d1f7410"), looks := false }, kinds := [], alts := [], laidByText := true, laidKinds := [.data], laidTests := true, laidLooks := .later }
def ShaHexesCardSaid : Prop := Claim7.holds Tryd.pinned (.plain (OpenSpec.ofChange shaHexesSpec)) shaHexesCard

/-- THE TIED CARD OF 'indenturelaw03.ShaCuts'. -/
def shaCutsCard : Claim7 := { stood := { row := shaCutsRow, standIns := [], harness := (true, "c229dad286e99b07b0ae7950808c2d5ba446c251acf485627dc54c5e9d1f7410"), looks := false }, kinds := [], alts := [], laidByText := true, laidKinds := [.data], laidTests := true, laidLooks := .later }
def ShaCutsCardSaid : Prop := Claim7.holds Tryd.pinned (.plain (OpenSpec.ofChange shaCutsSpec)) shaCutsCard

/-- THE TIED CARD OF 'indenturelaw03.ShaNone'. -/
def shaNoneCard : Claim7 := { stood := { row := shaNoneRow, standIns := [], harness := (true, "c229dad286e99b07b0ae7950808c2d5ba446c251acf485627dc54c5e9d1f7410"), looks := false }, kinds := [], alts := [], laidByText := true, laidKinds := [.data], laidTests := true, laidLooks := .later }
def ShaNoneCardSaid : Prop := Claim7.holds Tryd.pinned (.plain (OpenSpec.ofChange shaNoneSpec)) shaNoneCard

/-- THE TIED CARD OF 'indenturelaw03.ShaPieces'. -/
def shaPiecesCard : Claim7 := { stood := { row := shaPiecesRow, standIns := [], harness := (true, "c229dad286e99b07b0ae7950808c2d5ba446c251acf485627dc54c5e9d1f7410"), looks := false }, kinds := [], alts := [], laidByText := true, laidKinds := [.data], laidTests := true, laidLooks := .later }
def ShaPiecesCardSaid : Prop := Claim7.holds Tryd.pinned (.plain (OpenSpec.ofChange shaPiecesSpec)) shaPiecesCard

/-- THE SECOND FORM's CARD OF 'indenturelaw03.ShaSums'. -/
def shaSumsUptoCard : Claim7 := { stood := { row := shaSumsUptoRow, standIns := [], harness := (true, "c229dad286e99b07b0ae7950808c2d5ba446c251acf485627dc54c5e9d1f7410"), looks := false }, kinds := [], alts := [], laidByText := true, laidKinds := [.data], laidTests := true, laidLooks := .later }
def ShaSumsUptoCardSaid : Prop := Claim7.holds Tryd.pinned (.plain (OpenSpec.upto shaSumsSpec)) shaSumsUptoCard

/-- THE SECOND FORM's CARD OF 'indenturelaw02.SumJoins'. -/
def sumJoinsUptoCard : Claim7 := { stood := { row := sumJoinsUptoRow, standIns := [], harness := (true, "c229dad286e99b07b0ae7950808c2d5ba446c251acf485627dc54c5e9d1f7410"), looks := false }, kinds := [], alts := [], laidByText := true, laidKinds := [.data], laidTests := true, laidLooks := .later }
def SumJoinsUptoCardSaid : Prop := Claim7.holds Tryd.pinned (.plain (OpenSpec.upto sumJoinsSpec)) sumJoinsUptoCard

/-- THE SECOND FORM's CARD OF 'indenturelaw04.TagBytes'. -/
def tagBytesUptoCard : Claim7 := { stood := { row := tagBytesUptoRow, standIns := [], harness := (true, "c229dad286e99b07b0ae7950808c2d5ba446c251acf485627dc54c5e9d1f7410"), looks := false }, kinds := [], alts := [], laidByText := true, laidKinds := [.data], laidTests := true, laidLooks := .later }
def TagBytesUptoCardSaid : Prop := Claim7.holds Tryd.pinned (.plain (OpenSpec.upto tagBytesSpec)) tagBytesUptoCard

/-- THE SECOND FORM's CARD OF 'indenturelaw04.TagSides'. -/
def tagSidesUptoCard : Claim7 := { stood := { row := tagSidesUptoRow, standIns := [], harness := (true, "c229dad286e99b07b0ae7950808c2d5ba446c251acf485627dc54c5e9d1f7410"), looks := false }, kinds := [], alts := [], laidByText := true, laidKinds := [.data], laidTests := true, laidLooks := .later }
def TagSidesUptoCardSaid : Prop := Claim7.holds Tryd.pinned (.plain (OpenSpec.upto tagSidesSpec)) tagSidesUptoCard

/-- THE SECOND FORM's CARD OF 'indenturelaw04.TagForks'. -/
def tagForksUptoCard : Claim7 := { stood := { row := tagForksUptoRow, standIns := [], harness := (true, "c229dad286e99b07b0ae7950808c2d5ba446c251acf485627dc54c5e9d1f7410"), looks := false }, kinds := [], alts := [], laidByText := true, laidKinds := [.data], laidTests := true, laidLooks := .later }
def TagForksUptoCardSaid : Prop := Claim7.holds Tryd.pinned (.plain (OpenSpec.upto tagForksSpec)) tagForksUptoCard

/-- THE SECOND FORM's CARD OF 'indenturelaw02.SumFrames'. -/
def sumFramesUptoCard : Claim7 := { stood := { row := sumFramesUptoRow, standIns := [], harness := (true, "c229dad286e99b07b0ae7950808c2d5ba446c251acf485627dc54c5e9d1f7410"), looks := false }, kinds := [], alts := [], laidByText := true, laidKinds := [.data], laidTests := true, laidLooks := .later }
def SumFramesUptoCardSaid : Prop := Claim7.holds Tryd.pinned (.plain (OpenSpec.upto sumFramesSpec)) sumFramesUptoCard

/-- THE SECOND FORM's CARD OF 'indenturelaw02.SumBack'. -/
def sumBackUptoCard : Claim7 := { stood := { row := sumBackUptoRow, standIns := [], harness := (true, "c229dad286e99b07b0ae7950808c2d5ba446c251acf485627dc54c5e9d1f7410"), looks := false }, kinds := [], alts := [], laidByText := true, laidKinds := [.data], laidTests := true, laidLooks := .later }
def SumBackUptoCardSaid : Prop := Claim7.holds Tryd.pinned (.plain (OpenSpec.upto sumBackSpec)) sumBackUptoCard

/-- THE SECOND FORM's CARD OF 'indenturelaw02.SumFlips'. -/
def sumFlipsUptoCard : Claim7 := { stood := { row := sumFlipsUptoRow, standIns := [], harness := (true, "c229dad286e99b07b0ae7950808c2d5ba446c251acf485627dc54c5e9d1f7410"), looks := false }, kinds := [], alts := [], laidByText := true, laidKinds := [.data], laidTests := true, laidLooks := .later }
def SumFlipsUptoCardSaid : Prop := Claim7.holds Tryd.pinned (.plain (OpenSpec.upto sumFlipsSpec)) sumFlipsUptoCard

/-- THE SECOND FORM's CARD OF 'indenturelaw04.TagApart'. -/
def tagApartUptoCard : Claim7 := { stood := { row := tagApartUptoRow, standIns := [], harness := (true, "c229dad286e99b07b0ae7950808c2d5ba446c251acf485627dc54c5e9d1f7410"), looks := false }, kinds := [], alts := [], laidByText := true, laidKinds := [.data], laidTests := true, laidLooks := .later }
def TagApartUptoCardSaid : Prop := Claim7.holds Tryd.pinned (.plain (OpenSpec.upto tagApartSpec)) tagApartUptoCard

/-- THE SECOND FORM's CARD OF 'indenturelaw04.TagHashes'. -/
def tagHashesUptoCard : Claim7 := { stood := { row := tagHashesUptoRow, standIns := [], harness := (true, "c229dad286e99b07b0ae7950808c2d5ba446c251acf485627dc54c5e9d1f7410"), looks := false }, kinds := [], alts := [], laidByText := true, laidKinds := [.data], laidTests := true, laidLooks := .later }
def TagHashesUptoCardSaid : Prop := Claim7.holds Tryd.pinned (.plain (OpenSpec.upto tagHashesSpec)) tagHashesUptoCard

/-- THE SECOND FORM's CARD OF 'indenturelaw03.ShaDigits'. -/
def shaDigitsUptoCard : Claim7 := { stood := { row := shaDigitsUptoRow, standIns := [], harness := (true, "c229dad286e99b07b0ae7950808c2d5ba446c251acf485627dc54c5e9d1f7410"), looks := false }, kinds := [], alts := [], laidByText := true, laidKinds := [.data], laidTests := true, laidLooks := .later }
def ShaDigitsUptoCardSaid : Prop := Claim7.holds Tryd.pinned (.plain (OpenSpec.upto shaDigitsSpec)) shaDigitsUptoCard

/-- THE SECOND FORM's CARD OF 'indenturelaw03.ShaHexes'. -/
def shaHexesUptoCard : Claim7 := { stood := { row := shaHexesUptoRow, standIns := [], harness := (true, "c229dad286e99b07b0ae7950808c2d5ba446c251acf485627dc54c5e9d1f7410"), looks := false }, kinds := [], alts := [], laidByText := true, laidKinds := [.data], laidTests := true, laidLooks := .later }
def ShaHexesUptoCardSaid : Prop := Claim7.holds Tryd.pinned (.plain (OpenSpec.upto shaHexesSpec)) shaHexesUptoCard

/-- THE SECOND FORM's CARD OF 'indenturelaw03.ShaCuts'. -/
def shaCutsUptoCard : Claim7 := { stood := { row := shaCutsUptoRow, standIns := [], harness := (true, "c229dad286e99b07b0ae7950808c2d5ba446c251acf485627dc54c5e9d1f7410"), looks := false }, kinds := [], alts := [], laidByText := true, laidKinds := [.data], laidTests := true, laidLooks := .later }
def ShaCutsUptoCardSaid : Prop := Claim7.holds Tryd.pinned (.plain (OpenSpec.upto shaCutsSpec)) shaCutsUptoCard

/-- THE SECOND FORM's CARD OF 'indenturelaw03.ShaNone'. -/
def shaNoneUptoCard : Claim7 := { stood := { row := shaNoneUptoRow, standIns := [], harness := (true, "c229dad286e99b07b0ae7950808c2d5ba446c251acf485627dc54c5e9d1f7410"), looks := false }, kinds := [], alts := [], laidByText := true, laidKinds := [.data], laidTests := true, laidLooks := .later }
def ShaNoneUptoCardSaid : Prop := Claim7.holds Tryd.pinned (.plain (OpenSpec.upto shaNoneSpec)) shaNoneUptoCard

/-- THE SECOND FORM's CARD OF 'indenturelaw03.ShaPieces'. -/
def shaPiecesUptoCard : Claim7 := { stood := { row := shaPiecesUptoRow, standIns := [], harness := (true, "c229dad286e99b07b0ae7950808c2d5ba446c251acf485627dc54c5e9d1f7410"), looks := false }, kinds := [], alts := [], laidByText := true, laidKinds := [.data], laidTests := true, laidLooks := .later }
def ShaPiecesUptoCardSaid : Prop := Claim7.holds Tryd.pinned (.plain (OpenSpec.upto shaPiecesSpec)) shaPiecesUptoCard
end Rows
end Go.Proofs.YtdbdconmcgcooaaDoor
