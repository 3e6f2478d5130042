/-
  DERIVED. GIVEN WITH THE SEED: THE CARDS: each row of YtkfkdakghjlenaaDoorRows.lean that lists a variable, with what it lists TIED to the program's text (the seventh form; the later family's looks); each row that meets fmt, with fmt's text TOLD by the authors' own Lean function (tested against real Go, not proved from fmt's source: count such statements apart). THE CARD IS WHAT COUNTS. Prove the row's statement (the work); the ties are given (YtkfkdakghjlenaaDoorTie.lean); close each card by the builder's one call (the guide's Derived/Test/ToyasCard.lean, 'card_holds'). Laid BY PROGRAM, IN A SANDBOX (cutbox-door.mjs). By AI agents, Wed Nov 11 2026. No macro, syntax, notation, axiom, sorry.
-/
import Derived.Test.YtkfkdakghjlenaaDoorRows
import GoSem.ClaimSeven
namespace Go.Proofs.YtkfkdakghjlenaaDoor
namespace Rows

/-- THE TIED CARD OF 'indenturelaw27.MultiProves'. -/
def multiProvesCard : Claim7 := { stood := { row := multiProvesRow, standIns := [], harness := (true, "b294a317c36a34df497db68fd55bc0b78f65ddfbdff1f3a4e12a52d99c2259ce"), looks := false }, kinds := [], alts := [], laidByText := true, laidKinds := [.data], laidTests := true, laidLooks := .later }
def MultiProvesCardSaid : Prop := Claim7.holds Tryd.pinned (.plain (OpenSpec.ofChange multiProvesSpec)) multiProvesCard

/-- THE TIED CARD OF 'indenturelaw12.MemberNone'. -/
def memberNoneCard : Claim7 := { stood := { row := memberNoneRow, standIns := [], harness := (true, "b294a317c36a34df497db68fd55bc0b78f65ddfbdff1f3a4e12a52d99c2259ce"), looks := false }, kinds := [], alts := [], laidByText := true, laidKinds := [.data], laidTests := true, laidLooks := .later }
def MemberNoneCardSaid : Prop := Claim7.holds Tryd.pinned (.plain (OpenSpec.ofChange memberNoneSpec)) memberNoneCard

/-- THE TIED CARD OF 'indenturelaw12.MemberChecks'. -/
def memberChecksCard : Claim7 := { stood := { row := memberChecksRow, standIns := [], harness := (true, "b294a317c36a34df497db68fd55bc0b78f65ddfbdff1f3a4e12a52d99c2259ce"), looks := false }, kinds := [], alts := [], laidByText := true, laidKinds := [.data], laidTests := true, laidLooks := .later }
def MemberChecksCardSaid : Prop := Claim7.holds Tryd.pinned (.plain (OpenSpec.ofChange memberChecksSpec)) memberChecksCard

/-- THE TIED CARD OF 'indenturelaw11.TrieBits'. -/
def trieBitsCard : Claim7 := { stood := { row := trieBitsRow, standIns := [], harness := (true, "b294a317c36a34df497db68fd55bc0b78f65ddfbdff1f3a4e12a52d99c2259ce"), looks := false }, kinds := [], alts := [], laidByText := true, laidKinds := [.data], laidTests := true, laidLooks := .later }
def TrieBitsCardSaid : Prop := Claim7.holds Tryd.pinned (.plain (OpenSpec.ofChange trieBitsSpec)) trieBitsCard

/-- THE TIED CARD OF 'indenturelaw11.TrieGets'. -/
def trieGetsCard : Claim7 := { stood := { row := trieGetsRow, standIns := [], harness := (true, "b294a317c36a34df497db68fd55bc0b78f65ddfbdff1f3a4e12a52d99c2259ce"), looks := false }, kinds := [], alts := [], laidByText := true, laidKinds := [.data], laidTests := true, laidLooks := .later }
def TrieGetsCardSaid : Prop := Claim7.holds Tryd.pinned (.plain (OpenSpec.ofChange trieGetsSpec)) trieGetsCard

/-- THE TIED CARD OF 'indenturelaw11.TrieActs'. -/
def trieActsCard : Claim7 := { stood := { row := trieActsRow, standIns := [], harness := (true, "b294a317c36a34df497db68fd55bc0b78f65ddfbdff1f3a4e12a52d99c2259ce"), looks := false }, kinds := [], alts := [], laidByText := true, laidKinds := [.data], laidTests := true, laidLooks := .later }
def TrieActsCardSaid : Prop := Claim7.holds Tryd.pinned (.plain (OpenSpec.ofChange trieActsSpec)) trieActsCard

/-- THE TIED CARD OF 'indenturelaw11.TrieOrder'. -/
def trieOrderCard : Claim7 := { stood := { row := trieOrderRow, standIns := [], harness := (true, "b294a317c36a34df497db68fd55bc0b78f65ddfbdff1f3a4e12a52d99c2259ce"), looks := false }, kinds := [], alts := [], laidByText := true, laidKinds := [.data], laidTests := true, laidLooks := .later }
def TrieOrderCardSaid : Prop := Claim7.holds Tryd.pinned (.plain (OpenSpec.ofChange trieOrderSpec)) trieOrderCard

/-- THE TIED CARD OF 'indenturelaw11.TrieNone'. -/
def trieNoneCard : Claim7 := { stood := { row := trieNoneRow, standIns := [], harness := (true, "b294a317c36a34df497db68fd55bc0b78f65ddfbdff1f3a4e12a52d99c2259ce"), looks := false }, kinds := [], alts := [], laidByText := true, laidKinds := [.data], laidTests := true, laidLooks := .later }
def TrieNoneCardSaid : Prop := Claim7.holds Tryd.pinned (.plain (OpenSpec.ofChange trieNoneSpec)) trieNoneCard

/-- THE TIED CARD OF 'indenturelaw11.TrieAlike'. -/
def trieAlikeCard : Claim7 := { stood := { row := trieAlikeRow, standIns := [], harness := (true, "b294a317c36a34df497db68fd55bc0b78f65ddfbdff1f3a4e12a52d99c2259ce"), looks := false }, kinds := [], alts := [], laidByText := true, laidKinds := [.data], laidTests := true, laidLooks := .later }
def TrieAlikeCardSaid : Prop := Claim7.holds Tryd.pinned (.plain (OpenSpec.ofChange trieAlikeSpec)) trieAlikeCard

/-- THE TIED CARD OF 'indenturelaw12.MemberProves'. -/
def memberProvesCard : Claim7 := { stood := { row := memberProvesRow, standIns := [], harness := (true, "b294a317c36a34df497db68fd55bc0b78f65ddfbdff1f3a4e12a52d99c2259ce"), looks := false }, kinds := [], alts := [], laidByText := true, laidKinds := [.data], laidTests := true, laidLooks := .later }
def MemberProvesCardSaid : Prop := Claim7.holds Tryd.pinned (.plain (OpenSpec.ofChange memberProvesSpec)) memberProvesCard

/-- THE TIED CARD OF 'indenturelaw12.MemberHolds'. -/
def memberHoldsCard : Claim7 := { stood := { row := memberHoldsRow, standIns := [], harness := (true, "b294a317c36a34df497db68fd55bc0b78f65ddfbdff1f3a4e12a52d99c2259ce"), looks := false }, kinds := [], alts := [], laidByText := true, laidKinds := [.data], laidTests := true, laidLooks := .later }
def MemberHoldsCardSaid : Prop := Claim7.holds Tryd.pinned (.plain (OpenSpec.ofChange memberHoldsSpec)) memberHoldsCard

/-- THE TIED CARD OF 'indenturelaw12.MemberOthers'. -/
def memberOthersCard : Claim7 := { stood := { row := memberOthersRow, standIns := [], harness := (true, "b294a317c36a34df497db68fd55bc0b78f65ddfbdff1f3a4e12a52d99c2259ce"), looks := false }, kinds := [], alts := [], laidByText := true, laidKinds := [.data], laidTests := true, laidLooks := .later }
def MemberOthersCardSaid : Prop := Claim7.holds Tryd.pinned (.plain (OpenSpec.ofChange memberOthersSpec)) memberOthersCard

/-- THE TIED CARD OF 'indenturelaw12.MemberChanges'. -/
def memberChangesCard : Claim7 := { stood := { row := memberChangesRow, standIns := [], harness := (true, "b294a317c36a34df497db68fd55bc0b78f65ddfbdff1f3a4e12a52d99c2259ce"), looks := false }, kinds := [], alts := [], laidByText := true, laidKinds := [.data], laidTests := true, laidLooks := .later }
def MemberChangesCardSaid : Prop := Claim7.holds Tryd.pinned (.plain (OpenSpec.ofChange memberChangesSpec)) memberChangesCard

/-- THE TIED CARD OF 'indenturelaw27.MultiChecks'. -/
def multiChecksCard : Claim7 := { stood := { row := multiChecksRow, standIns := [], harness := (true, "b294a317c36a34df497db68fd55bc0b78f65ddfbdff1f3a4e12a52d99c2259ce"), looks := false }, kinds := [], alts := [], laidByText := true, laidKinds := [.data], laidTests := true, laidLooks := .later }
def MultiChecksCardSaid : Prop := Claim7.holds Tryd.pinned (.plain (OpenSpec.ofChange multiChecksSpec)) multiChecksCard

/-- THE TIED CARD OF 'indenturelaw27.MultiOthers'. -/
def multiOthersCard : Claim7 := { stood := { row := multiOthersRow, standIns := [], harness := (true, "b294a317c36a34df497db68fd55bc0b78f65ddfbdff1f3a4e12a52d99c2259ce"), looks := false }, kinds := [], alts := [], laidByText := true, laidKinds := [.data], laidTests := true, laidLooks := .later }
def MultiOthersCardSaid : Prop := Claim7.holds Tryd.pinned (.plain (OpenSpec.ofChange multiOthersSpec)) multiOthersCard

/-- THE TIED CARD OF 'indenturelaw27.MultiHolds'. -/
def multiHoldsCard : Claim7 := { stood := { row := multiHoldsRow, standIns := [], harness := (true, "b294a317c36a34df497db68fd55bc0b78f65ddfbdff1f3a4e12a52d99c2259ce"), looks := false }, kinds := [], alts := [], laidByText := true, laidKinds := [.data], laidTests := true, laidLooks := .later }
def MultiHoldsCardSaid : Prop := Claim7.holds Tryd.pinned (.plain (OpenSpec.ofChange multiHoldsSpec)) multiHoldsCard

/-- THE TIED CARD OF 'indenturelaw27.MultiBack'. -/
def multiBackCard : Claim7 := { stood := { row := multiBackRow, standIns := [], harness := (true, "b294a317c36a34df497db68fd55bc0b78f65ddfbdff1f3a4e12a52d99c2259ce"), looks := false }, kinds := [], alts := [], laidByText := true, laidKinds := [.data], laidTests := true, laidLooks := .later }
def MultiBackCardSaid : Prop := Claim7.holds Tryd.pinned (.plain (OpenSpec.ofChange multiBackSpec)) multiBackCard

/-- THE SECOND FORM's CARD OF 'indenturelaw27.MultiProves'. -/
def multiProvesUptoCard : Claim7 := { stood := { row := multiProvesUptoRow, standIns := [], harness := (true, "b294a317c36a34df497db68fd55bc0b78f65ddfbdff1f3a4e12a52d99c2259ce"), looks := false }, kinds := [], alts := [], laidByText := true, laidKinds := [.data], laidTests := true, laidLooks := .later }
def MultiProvesUptoCardSaid : Prop := Claim7.holds Tryd.pinned (.plain (OpenSpec.upto multiProvesSpec)) multiProvesUptoCard

/-- THE SECOND FORM's CARD OF 'indenturelaw12.MemberNone'. -/
def memberNoneUptoCard : Claim7 := { stood := { row := memberNoneUptoRow, standIns := [], harness := (true, "b294a317c36a34df497db68fd55bc0b78f65ddfbdff1f3a4e12a52d99c2259ce"), looks := false }, kinds := [], alts := [], laidByText := true, laidKinds := [.data], laidTests := true, laidLooks := .later }
def MemberNoneUptoCardSaid : Prop := Claim7.holds Tryd.pinned (.plain (OpenSpec.upto memberNoneSpec)) memberNoneUptoCard

/-- THE SECOND FORM's CARD OF 'indenturelaw12.MemberChecks'. -/
def memberChecksUptoCard : Claim7 := { stood := { row := memberChecksUptoRow, standIns := [], harness := (true, "b294a317c36a34df497db68fd55bc0b78f65ddfbdff1f3a4e12a52d99c2259ce"), looks := false }, kinds := [], alts := [], laidByText := true, laidKinds := [.data], laidTests := true, laidLooks := .later }
def MemberChecksUptoCardSaid : Prop := Claim7.holds Tryd.pinned (.plain (OpenSpec.upto memberChecksSpec)) memberChecksUptoCard

/-- THE SECOND FORM's CARD OF 'indenturelaw11.TrieBits'. -/
def trieBitsUptoCard : Claim7 := { stood := { row := trieBitsUptoRow, standIns := [], harness := (true, "b294a317c36a34df497db68fd55bc0b78f65ddfbdff1f3a4e12a52d99c2259ce"), looks := false }, kinds := [], alts := [], laidByText := true, laidKinds := [.data], laidTests := true, laidLooks := .later }
def TrieBitsUptoCardSaid : Prop := Claim7.holds Tryd.pinned (.plain (OpenSpec.upto trieBitsSpec)) trieBitsUptoCard

/-- THE SECOND FORM's CARD OF 'indenturelaw11.TrieGets'. -/
def trieGetsUptoCard : Claim7 := { stood := { row := trieGetsUptoRow, standIns := [], harness := (true, "b294a317c36a34df497db68fd55bc0b78f65ddfbdff1f3a4e12a52d99c2259ce"), looks := false }, kinds := [], alts := [], laidByText := true, laidKinds := [.data], laidTests := true, laidLooks := .later }
def TrieGetsUptoCardSaid : Prop := Claim7.holds Tryd.pinned (.plain (OpenSpec.upto trieGetsSpec)) trieGetsUptoCard

/-- THE SECOND FORM's CARD OF 'indenturelaw11.TrieActs'. -/
def trieActsUptoCard : Claim7 := { stood := { row := trieActsUptoRow, standIns := [], harness := (true, "b294a317c36a34df497db68fd55bc0b78f65ddfbdff1f3a4e12a52d99c2259ce"), looks := false }, kinds := [], alts := [], laidByText := true, laidKinds := [.data], laidTests := true, laidLooks := .later }
def TrieActsUptoCardSaid : Prop := Claim7.holds Tryd.pinned (.plain (OpenSpec.upto trieActsSpec)) trieActsUptoCard

/-- THE SECOND FORM's CARD OF 'indenturelaw11.TrieOrder'. -/
def trieOrderUptoCard : Claim7 := { stood := { row := trieOrderUptoRow, standIns := [], harness := (true, "b294a317c36a34df497db68fd55bc0b78f65ddfbdff1f3a4e12a52d99c2259ce"), looks := false }, kinds := [], alts := [], laidByText := true, laidKinds := [.data], laidTests := true, laidLooks := .later }
def TrieOrderUptoCardSaid : Prop := Claim7.holds Tryd.pinned (.plain (OpenSpec.upto trieOrderSpec)) trieOrderUptoCard

/-- THE SECOND FORM's CARD OF 'indenturelaw11.TrieNone'. -/
def trieNoneUptoCard : Claim7 := { stood := { row := trieNoneUptoRow, standIns := [], harness := (true, "b294a317c36a34df497db68fd55bc0b78f65ddfbdff1f3a4e12a52d99c2259ce"), looks := false }, kinds := [], alts := [], laidByText := true, laidKinds := [.data], laidTests := true, laidLooks := .later }
def TrieNoneUptoCardSaid : Prop := Claim7.holds Tryd.pinned (.plain (OpenSpec.upto trieNoneSpec)) trieNoneUptoCard

/-- THE SECOND FORM's CARD OF 'indenturelaw11.TrieAlike'. -/
def trieAlikeUptoCard : Claim7 := { stood := { row := trieAlikeUptoRow, standIns := [], harness := (true, "b294a317c36a34df497db68fd55bc0b78f65ddfbdff1f3a4e12a52d99c2259ce"), looks := false }, kinds := [], alts := [], laidByText := true, laidKinds := [.data], laidTests := true, laidLooks := .later }
def TrieAlikeUptoCardSaid : Prop := Claim7.holds Tryd.pinned (.plain (OpenSpec.upto trieAlikeSpec)) trieAlikeUptoCard

/-- THE SECOND FORM's CARD OF 'indenturelaw12.MemberProves'. -/
def memberProvesUptoCard : Claim7 := { stood := { row := memberProvesUptoRow, standIns := [], harness := (true, "b294a317c36a34df497db68fd55bc0b78f65ddfbdff1f3a4e12a52d99c2259ce"), looks := false }, kinds := [], alts := [], laidByText := true, laidKinds := [.data], laidTests := true, laidLooks := .later }
def MemberProvesUptoCardSaid : Prop := Claim7.holds Tryd.pinned (.plain (OpenSpec.upto memberProvesSpec)) memberProvesUptoCard

/-- THE SECOND FORM's CARD OF 'indenturelaw12.MemberHolds'. -/
def memberHoldsUptoCard : Claim7 := { stood := { row := memberHoldsUptoRow, standIns := [], harness := (true, "b294a317c36a34df497db68fd55bc0b78f65ddfbdff1f3a4e12a52d99c2259ce"), looks := false }, kinds := [], alts := [], laidByText := true, laidKinds := [.data], laidTests := true, laidLooks := .later }
def MemberHoldsUptoCardSaid : Prop := Claim7.holds Tryd.pinned (.plain (OpenSpec.upto memberHoldsSpec)) memberHoldsUptoCard

/-- THE SECOND FORM's CARD OF 'indenturelaw12.MemberOthers'. -/
def memberOthersUptoCard : Claim7 := { stood := { row := memberOthersUptoRow, standIns := [], harness := (true, "b294a317c36a34df497db68fd55bc0b78f65ddfbdff1f3a4e12a52d99c2259ce"), looks := false }, kinds := [], alts := [], laidByText := true, laidKinds := [.data], laidTests := true, laidLooks := .later }
def MemberOthersUptoCardSaid : Prop := Claim7.holds Tryd.pinned (.plain (OpenSpec.upto memberOthersSpec)) memberOthersUptoCard

/-- THE SECOND FORM's CARD OF 'indenturelaw12.MemberChanges'. -/
def memberChangesUptoCard : Claim7 := { stood := { row := memberChangesUptoRow, standIns := [], harness := (true, "b294a317c36a34df497db68fd55bc0b78f65ddfbdff1f3a4e12a52d99c2259ce"), looks := false }, kinds := [], alts := [], laidByText := true, laidKinds := [.data], laidTests := true, laidLooks := .later }
def MemberChangesUptoCardSaid : Prop := Claim7.holds Tryd.pinned (.plain (OpenSpec.upto memberChangesSpec)) memberChangesUptoCard

/-- THE SECOND FORM's CARD OF 'indenturelaw27.MultiChecks'. -/
def multiChecksUptoCard : Claim7 := { stood := { row := multiChecksUptoRow, standIns := [], harness := (true, "b294a317c36a34df497db68fd55bc0b78f65ddfbdff1f3a4e12a52d99c2259ce"), looks := false }, kinds := [], alts := [], laidByText := true, laidKinds := [.data], laidTests := true, laidLooks := .later }
def MultiChecksUptoCardSaid : Prop := Claim7.holds Tryd.pinned (.plain (OpenSpec.upto multiChecksSpec)) multiChecksUptoCard

/-- THE SECOND FORM's CARD OF 'indenturelaw27.MultiOthers'. -/
def multiOthersUptoCard : Claim7 := { stood := { row := multiOthersUptoRow, standIns := [], harness := (true, "b294a317c36a34df497db68fd55bc0b78f65ddfbdff1f3a4e12a52d99c2259ce"), looks := false }, kinds := [], alts := [], laidByText := true, laidKinds := [.data], laidTests := true, laidLooks := .later }
def MultiOthersUptoCardSaid : Prop := Claim7.holds Tryd.pinned (.plain (OpenSpec.upto multiOthersSpec)) multiOthersUptoCard

/-- THE SECOND FORM's CARD OF 'indenturelaw27.MultiHolds'. -/
def multiHoldsUptoCard : Claim7 := { stood := { row := multiHoldsUptoRow, standIns := [], harness := (true, "b294a317c36a34df497db68fd55bc0b78f65ddfbdff1f3a4e12a52d99c2259ce"), looks := false }, kinds := [], alts := [], laidByText := true, laidKinds := [.data], laidTests := true, laidLooks := .later }
def MultiHoldsUptoCardSaid : Prop := Claim7.holds Tryd.pinned (.plain (OpenSpec.upto multiHoldsSpec)) multiHoldsUptoCard

/-- THE SECOND FORM's CARD OF 'indenturelaw27.MultiBack'. -/
def multiBackUptoCard : Claim7 := { stood := { row := multiBackUptoRow, standIns := [], harness := (true, "b294a317c36a34df497db68fd55bc0b78f65ddfbdff1f3a4e12a52d99c2259ce"), looks := false }, kinds := [], alts := [], laidByText := true, laidKinds := [.data], laidTests := true, laidLooks := .later }
def MultiBackUptoCardSaid : Prop := Claim7.holds Tryd.pinned (.plain (OpenSpec.upto multiBackSpec)) multiBackUptoCard
end Rows
end Go.Proofs.YtkfkdakghjlenaaDoor
