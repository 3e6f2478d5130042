/-
 Own text, printed by a program of mine (wip/gx/rx/works.py): pieces of the run of works, reckoned by the kernel.
-/
import Derived.Test.YtdencdfdikmgbaaGreatDoorRxW
set_option linter.unusedSimpArgs false
set_option linter.unusedVariables false
set_option maxRecDepth 100000
namespace Go.Proofs.YtdencdfdikmgbaaGreatDoor
open Go.RowKit Go.Gx Go.Gx.Rx
theorem run0 : jH (run iN 2999 7 83 4 false (bP 0 co) st0) st1 = true := by decide +kernel
theorem run1 : jH (run iN 2998 7 83 4 false (bP 1 co) st1) st2 = true := by decide +kernel
theorem run3 : jH (run iN 2996 7 83 4 false (bP 3 co) st3) st4 = true := by decide +kernel
theorem run5 : jH (run iN 2994 7 83 4 false (bP 5 co) st5) st6 = true := by decide +kernel
theorem run7 : jH (run iN 2992 7 83 4 false (bP 7 co) st7) st8 = true := by decide +kernel
end Go.Proofs.YtdencdfdikmgbaaGreatDoor
