/-
  Own text, printed by a program of mine (wip/gx/rx/works.py): pieces of the run of works, reckoned by the kernel.
-/
import Derived.Test.YtdencdfdikmgbaaGreatDoorRxW
set_option linter.unusedSimpArgs false
set_option linter.unusedVariables false
set_option maxRecDepth 100000
namespace Go.Proofs.YtdencdfdikmgbaaGreatDoor
open Go.RowKit Go.Gx Go.Gx.Rx
theorem run0 : chkS (run tab0 2999 7 83 4 false (nthReg 0 body7) st0) st1 = true := by decide +kernel
theorem run1 : chkS (run tab0 2998 7 83 4 false (nthReg 1 body7) st1) st2 = true := by decide +kernel
theorem run3 : chkS (run tab0 2996 7 83 4 false (nthReg 3 body7) st3) st4 = true := by decide +kernel
theorem run5 : chkS (run tab0 2994 7 83 4 false (nthReg 5 body7) st5) st6 = true := by decide +kernel
theorem run7 : chkS (run tab0 2992 7 83 4 false (nthReg 7 body7) st7) st8 = true := by decide +kernel
end Go.Proofs.YtdencdfdikmgbaaGreatDoor
