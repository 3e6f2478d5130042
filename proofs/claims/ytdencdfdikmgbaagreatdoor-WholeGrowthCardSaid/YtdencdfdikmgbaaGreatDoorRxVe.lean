/-
 Own text, printed by a program of mine (wip/gx/rx/works.py): pieces of the run of works, reckoned by the kernel.
-/
import Derived.Test.YtdencdfdikmgbaaGreatDoorRxW
set_option linter.unusedSimpArgs false
set_option linter.unusedVariables false
set_option maxRecDepth 100000
namespace Go.Proofs.YtdencdfdikmgbaaGreatDoor
open Go.RowKit Go.Gx Go.Gx.Rx
theorem run8 : jH (run iN 2991 7 83 4 false (bP 8 co) st8) st9 = true := by decide +kernel
end Go.Proofs.YtdencdfdikmgbaaGreatDoor
