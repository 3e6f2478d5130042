/-
  NARROWER THAN 'FOR EVERY INPUT', by the rows' own cells (each row's printed sentence says how): WalScans: laid · WalGoesOn: laid · WalFull: laid · WalNone: laid · WalLong: laid · WalKeeps: laid.
  DERIVED. THE GIVEN ROWS OF THIS SEAT. 6 by the template 'for every input the law returns true; each argument reads behind the call as it read before'; 0 by the template 'total and deterministic' (their statements: YtcgapjieidmkpaaDoorTotals.lean).
  GIVEN WITH THE SEED: the statements are not yours to turn. If you find one false, say at which input.
  Laid BY PROGRAM, IN A SANDBOX (cutbox-rows.mjs): the forced cells as the released guide's own fill.sh prints them over the translation 9d5955d7685603f6… (all of the seat's roots in one cut). By AI agents, Wed Nov 11 2026. No macro, syntax, notation, axiom, sorry.
-/
import Derived.Test.YtcgapjieidmkpaaDoorChecked
import GoSem.Claim
import GoSem.ClaimJoined
import GoSem.ClaimMapViews
import Derived.JoinedTies
import Derived.KernelRfl
namespace Go.Proofs.YtcgapjieidmkpaaDoor
/- THE CELL 'sum', in the pinned program and in every row, IS THE sha256 OF THE DUMP (.gsa) THAT YtcgapjieidmkpaaDoorProg.lean LOADS. Nothing in Lean hashes anything: it is a label: what it is worth is what the hold of that sum in a sandbox is worth. -/
noncomputable def Tryd.pinned : Pinned := { name := "ytcgapjieidmkpaadoor", sum := "9d5955d7685603f6060b94268c9d9d53dbce32f605a7750dd80eba093c0d8d3c", checked := Tryd.checked }
namespace Rows
def none {H : Type} : Left H := { results := [], args := [] }

/- WHAT THE LISTED PACKAGE-LEVEL VARIABLES READ AS WHEN THE CALL BEGINS. Each datum BY PROGRAM (the guide's laid-datum.mjs) off the statement by which the dump's own 'gosem.cut.vars' lays the variable. In a bare row this is a premise. The card (YtcgapjieidmkpaaDoorCards.lean) ties it to the program's text. -/
def laid_indenture_sum_nibbles {H : Type} : DataW H := .agg [.lit (.int .u32 0), .lit (.int .u32 274646895), .lit (.int .u32 549293790), .lit (.int .u32 820201905), .lit (.int .u32 1098587580), .lit (.int .u32 1361435347), .lit (.int .u32 1640403810), .lit (.int .u32 1905808397), .lit (.int .u32 2197175160), .lit (.int .u32 2460548119), .lit (.int .u32 2722870694), .lit (.int .u32 2987750089), .lit (.int .u32 3280807620), .lit (.int .u32 3553878443), .lit (.int .u32 3811616794), .lit (.int .u32 4084100981)]

/-- 'indenturelaw06.WalScans': WHATEVER THE INPUT: true; the input reads as it did. -/
def walScansSpec : ChangeSpec := { name := "walScans", fn := fun _ => fun
  | [d] => { results := [.lit (.bool true)], args := [d] }
  | _ => none }
def walScansRow : OpenClaim := { program := "ytcgapjieidmkpaadoor", sum := "9d5955d7685603f6060b94268c9d9d53dbce32f605a7750dd80eba093c0d8d3c", func := "indenture/indenturelaw06.WalScans", spec := "walScans", unfollowed := true, recurses := true, named := ["indenture/sum.nibbles"], apart := false, laid := [("indenture/sum.nibbles", laid_indenture_sum_nibbles)] }
def WalScansSaid : Prop := walScansRow.holds Tryd.pinned (OpenSpec.ofChange walScansSpec)

/-- ITS FALSE NEIGHBOUR: 'it returns false'. Refute it at one input. -/
def walScansWrong : ChangeSpec := { name := "walScans", fn := fun _ => fun
  | [d] => { results := [.lit (.bool false)], args := [d] }
  | _ => none }
def WalScansWrongFalsely : Prop := walScansRow.holds Tryd.pinned (OpenSpec.ofChange walScansWrong)

/-- 'indenturelaw06.WalGoesOn': WHATEVER THE INPUT: true; the input reads as it did. -/
def walGoesOnSpec : ChangeSpec := { name := "walGoesOn", fn := fun _ => fun
  | [d1, d2] => { results := [.lit (.bool true)], args := [d1, d2] }
  | _ => none }
def walGoesOnRow : OpenClaim := { program := "ytcgapjieidmkpaadoor", sum := "9d5955d7685603f6060b94268c9d9d53dbce32f605a7750dd80eba093c0d8d3c", func := "indenture/indenturelaw06.WalGoesOn", spec := "walGoesOn", unfollowed := true, recurses := true, named := ["indenture/sum.nibbles"], apart := false, laid := [("indenture/sum.nibbles", laid_indenture_sum_nibbles)] }
def WalGoesOnSaid : Prop := walGoesOnRow.holds Tryd.pinned (OpenSpec.ofChange walGoesOnSpec)

/-- ITS FALSE NEIGHBOUR: 'it returns false'. Refute it at one input. -/
def walGoesOnWrong : ChangeSpec := { name := "walGoesOn", fn := fun _ => fun
  | [d1, d2] => { results := [.lit (.bool false)], args := [d1, d2] }
  | _ => none }
def WalGoesOnWrongFalsely : Prop := walGoesOnRow.holds Tryd.pinned (OpenSpec.ofChange walGoesOnWrong)

/-- 'indenturelaw06.WalFull': WHATEVER THE INPUT: true; the input reads as it did. -/
def walFullSpec : ChangeSpec := { name := "walFull", fn := fun _ => fun
  | [d1, d2] => { results := [.lit (.bool true)], args := [d1, d2] }
  | _ => none }
def walFullRow : OpenClaim := { program := "ytcgapjieidmkpaadoor", sum := "9d5955d7685603f6060b94268c9d9d53dbce32f605a7750dd80eba093c0d8d3c", func := "indenture/indenturelaw06.WalFull", spec := "walFull", unfollowed := true, recurses := true, named := ["indenture/sum.nibbles"], apart := false, laid := [("indenture/sum.nibbles", laid_indenture_sum_nibbles)] }
def WalFullSaid : Prop := walFullRow.holds Tryd.pinned (OpenSpec.ofChange walFullSpec)

/-- ITS FALSE NEIGHBOUR: 'it returns false'. Refute it at one input. -/
def walFullWrong : ChangeSpec := { name := "walFull", fn := fun _ => fun
  | [d1, d2] => { results := [.lit (.bool false)], args := [d1, d2] }
  | _ => none }
def WalFullWrongFalsely : Prop := walFullRow.holds Tryd.pinned (OpenSpec.ofChange walFullWrong)

/-- 'indenturelaw06.WalNone': WHATEVER THE INPUT: true; the input reads as it did. -/
def walNoneSpec : ChangeSpec := { name := "walNone", fn := fun _ => fun
  | [d] => { results := [.lit (.bool true)], args := [d] }
  | _ => none }
def walNoneRow : OpenClaim := { program := "ytcgapjieidmkpaadoor", sum := "9d5955d7685603f6060b94268c9d9d53dbce32f605a7750dd80eba093c0d8d3c", func := "indenture/indenturelaw06.WalNone", spec := "walNone", unfollowed := true, recurses := true, named := ["indenture/sum.nibbles"], apart := false, laid := [("indenture/sum.nibbles", laid_indenture_sum_nibbles)] }
def WalNoneSaid : Prop := walNoneRow.holds Tryd.pinned (OpenSpec.ofChange walNoneSpec)

/-- ITS FALSE NEIGHBOUR: 'it returns false'. Refute it at one input. -/
def walNoneWrong : ChangeSpec := { name := "walNone", fn := fun _ => fun
  | [d] => { results := [.lit (.bool false)], args := [d] }
  | _ => none }
def WalNoneWrongFalsely : Prop := walNoneRow.holds Tryd.pinned (OpenSpec.ofChange walNoneWrong)

/-- 'indenturelaw06.WalLong': WHATEVER THE INPUT: true; the input reads as it did. -/
def walLongSpec : ChangeSpec := { name := "walLong", fn := fun _ => fun
  | [d1, d2] => { results := [.lit (.bool true)], args := [d1, d2] }
  | _ => none }
def walLongRow : OpenClaim := { program := "ytcgapjieidmkpaadoor", sum := "9d5955d7685603f6060b94268c9d9d53dbce32f605a7750dd80eba093c0d8d3c", func := "indenture/indenturelaw06.WalLong", spec := "walLong", unfollowed := true, recurses := true, named := ["indenture/sum.nibbles"], apart := false, laid := [("indenture/sum.nibbles", laid_indenture_sum_nibbles)] }
def WalLongSaid : Prop := walLongRow.holds Tryd.pinned (OpenSpec.ofChange walLongSpec)

/-- ITS FALSE NEIGHBOUR: 'it returns false'. Refute it at one input. -/
def walLongWrong : ChangeSpec := { name := "walLong", fn := fun _ => fun
  | [d1, d2] => { results := [.lit (.bool false)], args := [d1, d2] }
  | _ => none }
def WalLongWrongFalsely : Prop := walLongRow.holds Tryd.pinned (OpenSpec.ofChange walLongWrong)

/-- 'indenturelaw06.WalKeeps': WHATEVER THE INPUT: true; the input reads as it did. -/
def walKeepsSpec : ChangeSpec := { name := "walKeeps", fn := fun _ => fun
  | [d1, d2, d3] => { results := [.lit (.bool true)], args := [d1, d2, d3] }
  | _ => none }
def walKeepsRow : OpenClaim := { program := "ytcgapjieidmkpaadoor", sum := "9d5955d7685603f6060b94268c9d9d53dbce32f605a7750dd80eba093c0d8d3c", func := "indenture/indenturelaw06.WalKeeps", spec := "walKeeps", unfollowed := true, recurses := true, named := ["indenture/sum.nibbles"], apart := false, laid := [("indenture/sum.nibbles", laid_indenture_sum_nibbles)] }
def WalKeepsSaid : Prop := walKeepsRow.holds Tryd.pinned (OpenSpec.ofChange walKeepsSpec)

/-- ITS FALSE NEIGHBOUR: 'it returns false'. Refute it at one input. -/
def walKeepsWrong : ChangeSpec := { name := "walKeeps", fn := fun _ => fun
  | [d1, d2, d3] => { results := [.lit (.bool false)], args := [d1, d2, d3] }
  | _ => none }
def WalKeepsWrongFalsely : Prop := walKeepsRow.holds Tryd.pinned (OpenSpec.ofChange walKeepsWrong)

/- THE SECOND FORM. 'bulk': how many values and letters a reading holds, each counted each time it is reached (what is shared counts as often as it is met; a slice's spare places count too). A statement '..UptoSaid' is the law's where the arguments, and the package variables that the reading takes, are together of bulk at most 1048576: NARROWER than '..Said'. Prove '..Said' where nothing that the law and all that it calls make is longer than what came in: it says more and counts as full. Else prove '..UptoSaid'. A law counts once. -/
mutual
def uptoBulk {H : Type} : DataW H → Nat
  | .lit (.string bytes) => bytes.length + 1
  | .lit _ => 1
  | .nil => 1
  | .ptr d => uptoBulk d + 1
  | .slice elems spare => uptoBulkAll elems + uptoBulkAll spare + 1
  | .agg parts => uptoBulkAll parts + 1
  | .iface _ d => uptoBulk d + 1
  | .map entries => uptoBulkEntries entries + 1
  | .held _ => 1
def uptoBulkAll {H : Type} : List (DataW H) → Nat
  | [] => 0
  | d :: r => uptoBulk d + uptoBulkAll r
def uptoBulkEntries {H : Type} : List (Lit × DataW H) → Nat
  | [] => 0
  | x :: r => uptoBulkEntry x + uptoBulkEntries r
def uptoBulkEntry {H : Type} : Lit × DataW H → Nat
  | (.string bytes, d) => bytes.length + uptoBulk d + 1
  | (_, d) => uptoBulk d + 1
 end
def uptoSmall : (H : Type) → List (DataW H) → Bool := fun _ ds => decide (uptoBulkAll ds ≤ 1048576)
def OpenSpec.upto (s : _root_.Go.ChangeSpec) : _root_.Go.OpenSpec := { _root_.Go.OpenSpec.ofChange s with cond := some uptoSmall }

/-- 'indenturelaw06.WalScans', WHERE WHAT IT READS IS OF BULK AT MOST 1048576: true; the input reads as it did. -/
def walScansUptoRow : OpenClaim := { program := "ytcgapjieidmkpaadoor", sum := "9d5955d7685603f6060b94268c9d9d53dbce32f605a7750dd80eba093c0d8d3c", func := "indenture/indenturelaw06.WalScans", spec := "walScans", unfollowed := true, recurses := true, named := ["indenture/sum.nibbles"], apart := false, laid := [("indenture/sum.nibbles", laid_indenture_sum_nibbles)], narrowed := true }
def WalScansUptoSaid : Prop := walScansUptoRow.holds Tryd.pinned (OpenSpec.upto walScansSpec)

/-- 'indenturelaw06.WalGoesOn', WHERE WHAT IT READS IS OF BULK AT MOST 1048576: true; the input reads as it did. -/
def walGoesOnUptoRow : OpenClaim := { program := "ytcgapjieidmkpaadoor", sum := "9d5955d7685603f6060b94268c9d9d53dbce32f605a7750dd80eba093c0d8d3c", func := "indenture/indenturelaw06.WalGoesOn", spec := "walGoesOn", unfollowed := true, recurses := true, named := ["indenture/sum.nibbles"], apart := false, laid := [("indenture/sum.nibbles", laid_indenture_sum_nibbles)], narrowed := true }
def WalGoesOnUptoSaid : Prop := walGoesOnUptoRow.holds Tryd.pinned (OpenSpec.upto walGoesOnSpec)

/-- 'indenturelaw06.WalFull', WHERE WHAT IT READS IS OF BULK AT MOST 1048576: true; the input reads as it did. -/
def walFullUptoRow : OpenClaim := { program := "ytcgapjieidmkpaadoor", sum := "9d5955d7685603f6060b94268c9d9d53dbce32f605a7750dd80eba093c0d8d3c", func := "indenture/indenturelaw06.WalFull", spec := "walFull", unfollowed := true, recurses := true, named := ["indenture/sum.nibbles"], apart := false, laid := [("indenture/sum.nibbles", laid_indenture_sum_nibbles)], narrowed := true }
def WalFullUptoSaid : Prop := walFullUptoRow.holds Tryd.pinned (OpenSpec.upto walFullSpec)

/-- 'indenturelaw06.WalNone', WHERE WHAT IT READS IS OF BULK AT MOST 1048576: true; the input reads as it did. -/
def walNoneUptoRow : OpenClaim := { program := "ytcgapjieidmkpaadoor", sum := "9d5955d7685603f6060b94268c9d9d53dbce32f605a7750dd80eba093c0d8d3c", func := "indenture/indenturelaw06.WalNone", spec := "walNone", unfollowed := true, recurses := true, named := ["indenture/sum.nibbles"], apart := false, laid := [("indenture/sum.nibbles", laid_indenture_sum_nibbles)], narrowed := true }
def WalNoneUptoSaid : Prop := walNoneUptoRow.holds Tryd.pinned (OpenSpec.upto walNoneSpec)

/-- 'indenturelaw06.WalLong', WHERE WHAT IT READS IS OF BULK AT MOST 1048576: true; the input reads as it did. -/
def walLongUptoRow : OpenClaim := { program := "ytcgapjieidmkpaadoor", sum := "9d5955d7685603f6060b94268c9d9d53dbce32f605a7750dd80eba093c0d8d3c", func := "indenture/indenturelaw06.WalLong", spec := "walLong", unfollowed := true, recurses := true, named := ["indenture/sum.nibbles"], apart := false, laid := [("indenture/sum.nibbles", laid_indenture_sum_nibbles)], narrowed := true }
def WalLongUptoSaid : Prop := walLongUptoRow.holds Tryd.pinned (OpenSpec.upto walLongSpec)

/-- 'indenturelaw06.WalKeeps', WHERE WHAT IT READS IS OF BULK AT MOST 1048576: true; the input reads as it did. -/
def walKeepsUptoRow : OpenClaim := { program := "ytcgapjieidmkpaadoor", sum := "9d5955d7685603f6060b94268c9d9d53dbce32f605a7750dd80eba093c0d8d3c", func := "indenture/indenturelaw06.WalKeeps", spec := "walKeeps", unfollowed := true, recurses := true, named := ["indenture/sum.nibbles"], apart := false, laid := [("indenture/sum.nibbles", laid_indenture_sum_nibbles)], narrowed := true }
def WalKeepsUptoSaid : Prop := walKeepsUptoRow.holds Tryd.pinned (OpenSpec.upto walKeepsSpec)

end Rows
end Go.Proofs.YtcgapjieidmkpaaDoor
