/-
  DERIVED. GIVEN WITH THE SEED: THE CARDS: each row of YtdencdfdikmgbaaGreatDoorRows.lean that lists a variable, with what it lists TIED to the program's text (the seventh form; the later family's looks); each row that meets fmt, with fmt's text TOLD by the authors' own Lean function (tested against real Go, not proved from fmt's source: count such statements apart). THE CARD IS WHAT COUNTS. Prove the row's statement (the work); the ties are given (YtdencdfdikmgbaaGreatDoorTie.lean); close each card by the builder's one call (the guide's Derived/Test/ToyasCard.lean, 'card_holds'). Laid BY PROGRAM, IN A SANDBOX (cutbox-door.mjs). By AI agents, Wed Nov 11 2026. No macro, syntax, notation, axiom, sorry.
-/
import Derived.Test.YtdencdfdikmgbaaGreatDoorRows
import GoSem.ClaimSeven
namespace Go.Proofs.YtdencdfdikmgbaaGreatDoor
namespace Rows

/-- THE TIED CARD OF 'indenturetop.WholeSound'. -/
def wholeSoundCard : Claim7 := { stood := { row := wholeSoundRow, standIns := [], harness := (true, "143a749e932ac2275daa9b77decf7ec27c4edce5857919cefb2146ef2d8c6b03"), looks := false }, kinds := [], alts := [], laidByText := true, laidKinds := [.data, .data, .data, .data], laidTests := true, laidLooks := .later }
def WholeSoundCardSaid : Prop := Claim7.holds Tryz.pinned (.plain (OpenSpec.ofChange wholeSoundSpec)) wholeSoundCard

/-- THE TIED CARD OF 'indenturetop.WholeGrowth'. -/
def wholeGrowthCard : Claim7 := { stood := { row := wholeGrowthRow, standIns := [], harness := (true, "143a749e932ac2275daa9b77decf7ec27c4edce5857919cefb2146ef2d8c6b03"), looks := false }, kinds := [], alts := [], laidByText := true, laidKinds := [.data, .data, .data, .data], laidTests := true, laidLooks := .later }
def WholeGrowthCardSaid : Prop := Claim7.holds Tryz.pinned (.plain (OpenSpec.ofChange wholeGrowthSpec)) wholeGrowthCard

/-- THE SECOND FORM's CARD OF 'indenturetop.WholeSound'. -/
def wholeSoundUptoCard : Claim7 := { stood := { row := wholeSoundUptoRow, standIns := [], harness := (true, "143a749e932ac2275daa9b77decf7ec27c4edce5857919cefb2146ef2d8c6b03"), looks := false }, kinds := [], alts := [], laidByText := true, laidKinds := [.data, .data, .data, .data], laidTests := true, laidLooks := .later }
def WholeSoundUptoCardSaid : Prop := Claim7.holds Tryz.pinned (.plain (OpenSpec.upto wholeSoundSpec)) wholeSoundUptoCard

/-- THE SECOND FORM's CARD OF 'indenturetop.WholeGrowth'. -/
def wholeGrowthUptoCard : Claim7 := { stood := { row := wholeGrowthUptoRow, standIns := [], harness := (true, "143a749e932ac2275daa9b77decf7ec27c4edce5857919cefb2146ef2d8c6b03"), looks := false }, kinds := [], alts := [], laidByText := true, laidKinds := [.data, .data, .data, .data], laidTests := true, laidLooks := .later }
def WholeGrowthUptoCardSaid : Prop := Claim7.holds Tryz.pinned (.plain (OpenSpec.upto wholeGrowthSpec)) wholeGrowthUptoCard
end Rows
end Go.Proofs.YtdencdfdikmgbaaGreatDoor
