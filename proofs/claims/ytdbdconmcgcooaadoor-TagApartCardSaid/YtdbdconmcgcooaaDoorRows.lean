/-
  NARROWER THAN 'FOR EVERY INPUT', by the rows' own cells (each row's printed sentence says how): ShaSums: laid · SumJoins: laid · TagBytes: laid · TagSides: laid · TagForks: laid · SumFrames: laid · SumBack: laid · SumFlips: laid · TagApart: laid · TagHashes: laid · ShaDigits: laid · ShaHexes: laid · ShaCuts: laid · ShaNone: laid · ShaPieces: laid.
  DERIVED. THE GIVEN ROWS OF THIS SEAT. 15 by the template 'for every input the law returns true; each argument reads behind the call as it read before'; 0 by the template 'total and deterministic' (their statements: YtdbdconmcgcooaaDoorTotals.lean).
  GIVEN WITH THE SEED: the statements are not yours to turn. If you find one false, say at which input.
  Laid BY PROGRAM, IN A SANDBOX (cutbox-rows.mjs): the forced cells as the released guide's own fill.sh prints them over the translation f1d02bc8b3e31157… (all of the seat's roots in one cut). By AI agents, Wed Nov 11 2026. No macro, syntax, notation, axiom, sorry.
-/
import Derived.Test.YtdbdconmcgcooaaDoorChecked
import GoSem.Claim
import GoSem.ClaimJoined
import GoSem.ClaimMapViews
import Derived.JoinedTies
import Derived.KernelRfl
namespace Go.Proofs.YtdbdconmcgcooaaDoor
/- THE CELL 'sum', in the pinned program and in every row, IS THE sha256 OF THE DUMP (.gsa) THAT YtdbdconmcgcooaaDoorProg.lean LOADS. Nothing in Lean hashes anything: it is a label: what it is worth is what the hold of that sum in a sandbox is worth. -/
noncomputable def Tryd.pinned : Pinned := { name := "ytdbdconmcgcooaadoor", sum := "f1d02bc8b3e31157862ee5adae94f6f5eb70132d3361579bd86ff8ba67c47f68", checked := Tryd.checked }
namespace Rows
def none {H : Type} : Left H := { results := [], args := [] }

/- WHAT THE LISTED PACKAGE-LEVEL VARIABLES READ AS WHEN THE CALL BEGINS. Each datum BY PROGRAM (the guide's laid-datum.mjs) off the statement by which the dump's own 'gosem.cut.vars' lays the variable. In a bare row this is a premise. The card (YtdbdconmcgcooaaDoorCards.lean) ties it to the program's text. -/
def laid_indenture_sha_rounds {H : Type} : DataW H := .agg [.lit (.int .u32 1116352408), .lit (.int .u32 1899447441), .lit (.int .u32 3049323471), .lit (.int .u32 3921009573), .lit (.int .u32 961987163), .lit (.int .u32 1508970993), .lit (.int .u32 2453635748), .lit (.int .u32 2870763221), .lit (.int .u32 3624381080), .lit (.int .u32 310598401), .lit (.int .u32 607225278), .lit (.int .u32 1426881987), .lit (.int .u32 1925078388), .lit (.int .u32 2162078206), .lit (.int .u32 2614888103), .lit (.int .u32 3248222580), .lit (.int .u32 3835390401), .lit (.int .u32 4022224774), .lit (.int .u32 264347078), .lit (.int .u32 604807628), .lit (.int .u32 770255983), .lit (.int .u32 1249150122), .lit (.int .u32 1555081692), .lit (.int .u32 1996064986), .lit (.int .u32 2554220882), .lit (.int .u32 2821834349), .lit (.int .u32 2952996808), .lit (.int .u32 3210313671), .lit (.int .u32 3336571891), .lit (.int .u32 3584528711), .lit (.int .u32 113926993), .lit (.int .u32 338241895), .lit (.int .u32 666307205), .lit (.int .u32 773529912), .lit (.int .u32 1294757372), .lit (.int .u32 1396182291), .lit (.int .u32 1695183700), .lit (.int .u32 1986661051), .lit (.int .u32 2177026350), .lit (.int .u32 2456956037), .lit (.int .u32 2730485921), .lit (.int .u32 2820302411), .lit (.int .u32 3259730800), .lit (.int .u32 3345764771), .lit (.int .u32 3516065817), .lit (.int .u32 3600352804), .lit (.int .u32 4094571909), .lit (.int .u32 275423344), .lit (.int .u32 430227734), .lit (.int .u32 506948616), .lit (.int .u32 659060556), .lit (.int .u32 883997877), .lit (.int .u32 958139571), .lit (.int .u32 1322822218), .lit (.int .u32 1537002063), .lit (.int .u32 1747873779), .lit (.int .u32 1955562222), .lit (.int .u32 2024104815), .lit (.int .u32 2227730452), .lit (.int .u32 2361852424), .lit (.int .u32 2428436474), .lit (.int .u32 2756734187), .lit (.int .u32 3204031479), .lit (.int .u32 3329325298)]
def laid_indenture_sum_nibbles {H : Type} : DataW H := .agg [.lit (.int .u32 0), .lit (.int .u32 274646895), .lit (.int .u32 549293790), .lit (.int .u32 820201905), .lit (.int .u32 1098587580), .lit (.int .u32 1361435347), .lit (.int .u32 1640403810), .lit (.int .u32 1905808397), .lit (.int .u32 2197175160), .lit (.int .u32 2460548119), .lit (.int .u32 2722870694), .lit (.int .u32 2987750089), .lit (.int .u32 3280807620), .lit (.int .u32 3553878443), .lit (.int .u32 3811616794), .lit (.int .u32 4084100981)]

/-- 'indenturelaw03.ShaSums': WHATEVER THE INPUT: true; the input reads as it did. -/
def shaSumsSpec : ChangeSpec := { name := "shaSums", fn := fun _ => fun
  | [d] => { results := [.lit (.bool true)], args := [d] }
  | _ => none }
def shaSumsRow : OpenClaim := { program := "ytdbdconmcgcooaadoor", sum := "f1d02bc8b3e31157862ee5adae94f6f5eb70132d3361579bd86ff8ba67c47f68", func := "indenture/indenturelaw03.ShaSums", spec := "shaSums", named := ["indenture/sha.rounds"], apart := false, laid := [("indenture/sha.rounds", laid_indenture_sha_rounds)] }
def ShaSumsSaid : Prop := shaSumsRow.holds Tryd.pinned (OpenSpec.ofChange shaSumsSpec)

/-- ITS FALSE NEIGHBOUR: 'it returns false'. Refute it at one input. -/
def shaSumsWrong : ChangeSpec := { name := "shaSums", fn := fun _ => fun
  | [d] => { results := [.lit (.bool false)], args := [d] }
  | _ => none }
def ShaSumsWrongFalsely : Prop := shaSumsRow.holds Tryd.pinned (OpenSpec.ofChange shaSumsWrong)

/-- 'indenturelaw02.SumJoins': WHATEVER THE INPUT: true; the input reads as it did. -/
def sumJoinsSpec : ChangeSpec := { name := "sumJoins", fn := fun _ => fun
  | [d1, d2] => { results := [.lit (.bool true)], args := [d1, d2] }
  | _ => none }
def sumJoinsRow : OpenClaim := { program := "ytdbdconmcgcooaadoor", sum := "f1d02bc8b3e31157862ee5adae94f6f5eb70132d3361579bd86ff8ba67c47f68", func := "indenture/indenturelaw02.SumJoins", spec := "sumJoins", named := ["indenture/sum.nibbles"], apart := false, laid := [("indenture/sum.nibbles", laid_indenture_sum_nibbles)] }
def SumJoinsSaid : Prop := sumJoinsRow.holds Tryd.pinned (OpenSpec.ofChange sumJoinsSpec)

/-- ITS FALSE NEIGHBOUR: 'it returns false'. Refute it at one input. -/
def sumJoinsWrong : ChangeSpec := { name := "sumJoins", fn := fun _ => fun
  | [d1, d2] => { results := [.lit (.bool false)], args := [d1, d2] }
  | _ => none }
def SumJoinsWrongFalsely : Prop := sumJoinsRow.holds Tryd.pinned (OpenSpec.ofChange sumJoinsWrong)

/-- 'indenturelaw04.TagBytes': WHATEVER THE INPUT: true; the input reads as it did. -/
def tagBytesSpec : ChangeSpec := { name := "tagBytes", fn := fun _ => fun
  | [d1, d2] => { results := [.lit (.bool true)], args := [d1, d2] }
  | _ => none }
def tagBytesRow : OpenClaim := { program := "ytdbdconmcgcooaadoor", sum := "f1d02bc8b3e31157862ee5adae94f6f5eb70132d3361579bd86ff8ba67c47f68", func := "indenture/indenturelaw04.TagBytes", spec := "tagBytes", named := ["indenture/sha.rounds"], apart := false, laid := [("indenture/sha.rounds", laid_indenture_sha_rounds)] }
def TagBytesSaid : Prop := tagBytesRow.holds Tryd.pinned (OpenSpec.ofChange tagBytesSpec)

/-- ITS FALSE NEIGHBOUR: 'it returns false'. Refute it at one input. -/
def tagBytesWrong : ChangeSpec := { name := "tagBytes", fn := fun _ => fun
  | [d1, d2] => { results := [.lit (.bool false)], args := [d1, d2] }
  | _ => none }
def TagBytesWrongFalsely : Prop := tagBytesRow.holds Tryd.pinned (OpenSpec.ofChange tagBytesWrong)

/-- 'indenturelaw04.TagSides': WHATEVER THE INPUT: true; the input reads as it did. -/
def tagSidesSpec : ChangeSpec := { name := "tagSides", fn := fun _ => fun
  | [d1, d2, d3] => { results := [.lit (.bool true)], args := [d1, d2, d3] }
  | _ => none }
def tagSidesRow : OpenClaim := { program := "ytdbdconmcgcooaadoor", sum := "f1d02bc8b3e31157862ee5adae94f6f5eb70132d3361579bd86ff8ba67c47f68", func := "indenture/indenturelaw04.TagSides", spec := "tagSides", named := ["indenture/sha.rounds"], apart := false, laid := [("indenture/sha.rounds", laid_indenture_sha_rounds)] }
def TagSidesSaid : Prop := tagSidesRow.holds Tryd.pinned (OpenSpec.ofChange tagSidesSpec)

/-- ITS FALSE NEIGHBOUR: 'it returns false'. Refute it at one input. -/
def tagSidesWrong : ChangeSpec := { name := "tagSides", fn := fun _ => fun
  | [d1, d2, d3] => { results := [.lit (.bool false)], args := [d1, d2, d3] }
  | _ => none }
def TagSidesWrongFalsely : Prop := tagSidesRow.holds Tryd.pinned (OpenSpec.ofChange tagSidesWrong)

/-- 'indenturelaw04.TagForks': WHATEVER THE INPUT: true; the input reads as it did. -/
def tagForksSpec : ChangeSpec := { name := "tagForks", fn := fun _ => fun
  | [d1, d2] => { results := [.lit (.bool true)], args := [d1, d2] }
  | _ => none }
def tagForksRow : OpenClaim := { program := "ytdbdconmcgcooaadoor", sum := "f1d02bc8b3e31157862ee5adae94f6f5eb70132d3361579bd86ff8ba67c47f68", func := "indenture/indenturelaw04.TagForks", spec := "tagForks", named := ["indenture/sha.rounds"], apart := false, laid := [("indenture/sha.rounds", laid_indenture_sha_rounds)] }
def TagForksSaid : Prop := tagForksRow.holds Tryd.pinned (OpenSpec.ofChange tagForksSpec)

/-- ITS FALSE NEIGHBOUR: 'it returns false'. Refute it at one input. -/
def tagForksWrong : ChangeSpec := { name := "tagForks", fn := fun _ => fun
  | [d1, d2] => { results := [.lit (.bool false)], args := [d1, d2] }
  | _ => none }
def TagForksWrongFalsely : Prop := tagForksRow.holds Tryd.pinned (OpenSpec.ofChange tagForksWrong)

/-- 'indenturelaw02.SumFrames': WHATEVER THE INPUT: true; the input reads as it did. -/
def sumFramesSpec : ChangeSpec := { name := "sumFrames", fn := fun _ => fun
  | [d] => { results := [.lit (.bool true)], args := [d] }
  | _ => none }
def sumFramesRow : OpenClaim := { program := "ytdbdconmcgcooaadoor", sum := "f1d02bc8b3e31157862ee5adae94f6f5eb70132d3361579bd86ff8ba67c47f68", func := "indenture/indenturelaw02.SumFrames", spec := "sumFrames", named := ["indenture/sum.nibbles"], apart := false, laid := [("indenture/sum.nibbles", laid_indenture_sum_nibbles)] }
def SumFramesSaid : Prop := sumFramesRow.holds Tryd.pinned (OpenSpec.ofChange sumFramesSpec)

/-- ITS FALSE NEIGHBOUR: 'it returns false'. Refute it at one input. -/
def sumFramesWrong : ChangeSpec := { name := "sumFrames", fn := fun _ => fun
  | [d] => { results := [.lit (.bool false)], args := [d] }
  | _ => none }
def SumFramesWrongFalsely : Prop := sumFramesRow.holds Tryd.pinned (OpenSpec.ofChange sumFramesWrong)

/-- 'indenturelaw02.SumBack': WHATEVER THE INPUT: true; the input reads as it did. -/
def sumBackSpec : ChangeSpec := { name := "sumBack", fn := fun _ => fun
  | [d1, d2, d3] => { results := [.lit (.bool true)], args := [d1, d2, d3] }
  | _ => none }
def sumBackRow : OpenClaim := { program := "ytdbdconmcgcooaadoor", sum := "f1d02bc8b3e31157862ee5adae94f6f5eb70132d3361579bd86ff8ba67c47f68", func := "indenture/indenturelaw02.SumBack", spec := "sumBack", named := ["indenture/sum.nibbles"], apart := false, laid := [("indenture/sum.nibbles", laid_indenture_sum_nibbles)] }
def SumBackSaid : Prop := sumBackRow.holds Tryd.pinned (OpenSpec.ofChange sumBackSpec)

/-- ITS FALSE NEIGHBOUR: 'it returns false'. Refute it at one input. -/
def sumBackWrong : ChangeSpec := { name := "sumBack", fn := fun _ => fun
  | [d1, d2, d3] => { results := [.lit (.bool false)], args := [d1, d2, d3] }
  | _ => none }
def SumBackWrongFalsely : Prop := sumBackRow.holds Tryd.pinned (OpenSpec.ofChange sumBackWrong)

/-- 'indenturelaw02.SumFlips': WHATEVER THE INPUT: true; the input reads as it did. -/
def sumFlipsSpec : ChangeSpec := { name := "sumFlips", fn := fun _ => fun
  | [d1, d2] => { results := [.lit (.bool true)], args := [d1, d2] }
  | _ => none }
def sumFlipsRow : OpenClaim := { program := "ytdbdconmcgcooaadoor", sum := "f1d02bc8b3e31157862ee5adae94f6f5eb70132d3361579bd86ff8ba67c47f68", func := "indenture/indenturelaw02.SumFlips", spec := "sumFlips", named := ["indenture/sum.nibbles"], apart := false, laid := [("indenture/sum.nibbles", laid_indenture_sum_nibbles)] }
def SumFlipsSaid : Prop := sumFlipsRow.holds Tryd.pinned (OpenSpec.ofChange sumFlipsSpec)

/-- ITS FALSE NEIGHBOUR: 'it returns false'. Refute it at one input. -/
def sumFlipsWrong : ChangeSpec := { name := "sumFlips", fn := fun _ => fun
  | [d1, d2] => { results := [.lit (.bool false)], args := [d1, d2] }
  | _ => none }
def SumFlipsWrongFalsely : Prop := sumFlipsRow.holds Tryd.pinned (OpenSpec.ofChange sumFlipsWrong)

/-- 'indenturelaw04.TagApart': WHATEVER THE INPUT: true; the input reads as it did. -/
def tagApartSpec : ChangeSpec := { name := "tagApart", fn := fun _ => fun
  | [d1, d2, d3] => { results := [.lit (.bool true)], args := [d1, d2, d3] }
  | _ => none }
def tagApartRow : OpenClaim := { program := "ytdbdconmcgcooaadoor", sum := "f1d02bc8b3e31157862ee5adae94f6f5eb70132d3361579bd86ff8ba67c47f68", func := "indenture/indenturelaw04.TagApart", spec := "tagApart", named := ["indenture/sha.rounds"], apart := false, laid := [("indenture/sha.rounds", laid_indenture_sha_rounds)] }
def TagApartSaid : Prop := tagApartRow.holds Tryd.pinned (OpenSpec.ofChange tagApartSpec)

/-- ITS FALSE NEIGHBOUR: 'it returns false'. Refute it at one input. -/
def tagApartWrong : ChangeSpec := { name := "tagApart", fn := fun _ => fun
  | [d1, d2, d3] => { results := [.lit (.bool false)], args := [d1, d2, d3] }
  | _ => none }
def TagApartWrongFalsely : Prop := tagApartRow.holds Tryd.pinned (OpenSpec.ofChange tagApartWrong)

/-- 'indenturelaw04.TagHashes': WHATEVER THE INPUT: true; the input reads as it did. -/
def tagHashesSpec : ChangeSpec := { name := "tagHashes", fn := fun _ => fun
  | [d1, d2, d3] => { results := [.lit (.bool true)], args := [d1, d2, d3] }
  | _ => none }
def tagHashesRow : OpenClaim := { program := "ytdbdconmcgcooaadoor", sum := "f1d02bc8b3e31157862ee5adae94f6f5eb70132d3361579bd86ff8ba67c47f68", func := "indenture/indenturelaw04.TagHashes", spec := "tagHashes", named := ["indenture/sha.rounds"], apart := false, laid := [("indenture/sha.rounds", laid_indenture_sha_rounds)] }
def TagHashesSaid : Prop := tagHashesRow.holds Tryd.pinned (OpenSpec.ofChange tagHashesSpec)

/-- ITS FALSE NEIGHBOUR: 'it returns false'. Refute it at one input. -/
def tagHashesWrong : ChangeSpec := { name := "tagHashes", fn := fun _ => fun
  | [d1, d2, d3] => { results := [.lit (.bool false)], args := [d1, d2, d3] }
  | _ => none }
def TagHashesWrongFalsely : Prop := tagHashesRow.holds Tryd.pinned (OpenSpec.ofChange tagHashesWrong)

/-- 'indenturelaw03.ShaDigits': WHATEVER THE INPUT: true; the input reads as it did. -/
def shaDigitsSpec : ChangeSpec := { name := "shaDigits", fn := fun _ => fun
  | [d1, d2] => { results := [.lit (.bool true)], args := [d1, d2] }
  | _ => none }
def shaDigitsRow : OpenClaim := { program := "ytdbdconmcgcooaadoor", sum := "f1d02bc8b3e31157862ee5adae94f6f5eb70132d3361579bd86ff8ba67c47f68", func := "indenture/indenturelaw03.ShaDigits", spec := "shaDigits", named := ["indenture/sha.rounds"], apart := false, laid := [("indenture/sha.rounds", laid_indenture_sha_rounds)] }
def ShaDigitsSaid : Prop := shaDigitsRow.holds Tryd.pinned (OpenSpec.ofChange shaDigitsSpec)

/-- ITS FALSE NEIGHBOUR: 'it returns false'. Refute it at one input. -/
def shaDigitsWrong : ChangeSpec := { name := "shaDigits", fn := fun _ => fun
  | [d1, d2] => { results := [.lit (.bool false)], args := [d1, d2] }
  | _ => none }
def ShaDigitsWrongFalsely : Prop := shaDigitsRow.holds Tryd.pinned (OpenSpec.ofChange shaDigitsWrong)

/-- 'indenturelaw03.ShaHexes': WHATEVER THE INPUT: true; the input reads as it did. -/
def shaHexesSpec : ChangeSpec := { name := "shaHexes", fn := fun _ => fun
  | [d1, d2, d3] => { results := [.lit (.bool true)], args := [d1, d2, d3] }
  | _ => none }
def shaHexesRow : OpenClaim := { program := "ytdbdconmcgcooaadoor", sum := "f1d02bc8b3e31157862ee5adae94f6f5eb70132d3361579bd86ff8ba67c47f68", func := "indenture/indenturelaw03.ShaHexes", spec := "shaHexes", named := ["indenture/sha.rounds"], apart := false, laid := [("indenture/sha.rounds", laid_indenture_sha_rounds)] }
def ShaHexesSaid : Prop := shaHexesRow.holds Tryd.pinned (OpenSpec.ofChange shaHexesSpec)

/-- ITS FALSE NEIGHBOUR: 'it returns false'. Refute it at one input. -/
def shaHexesWrong : ChangeSpec := { name := "shaHexes", fn := fun _ => fun
  | [d1, d2, d3] => { results := [.lit (.bool false)], args := [d1, d2, d3] }
  | _ => none }
def ShaHexesWrongFalsely : Prop := shaHexesRow.holds Tryd.pinned (OpenSpec.ofChange shaHexesWrong)

/-- 'indenturelaw03.ShaCuts': WHATEVER THE INPUT: true; the input reads as it did. -/
def shaCutsSpec : ChangeSpec := { name := "shaCuts", fn := fun _ => fun
  | [d1, d2, d3] => { results := [.lit (.bool true)], args := [d1, d2, d3] }
  | _ => none }
def shaCutsRow : OpenClaim := { program := "ytdbdconmcgcooaadoor", sum := "f1d02bc8b3e31157862ee5adae94f6f5eb70132d3361579bd86ff8ba67c47f68", func := "indenture/indenturelaw03.ShaCuts", spec := "shaCuts", named := ["indenture/sha.rounds"], apart := false, laid := [("indenture/sha.rounds", laid_indenture_sha_rounds)] }
def ShaCutsSaid : Prop := shaCutsRow.holds Tryd.pinned (OpenSpec.ofChange shaCutsSpec)

/-- ITS FALSE NEIGHBOUR: 'it returns false'. Refute it at one input. -/
def shaCutsWrong : ChangeSpec := { name := "shaCuts", fn := fun _ => fun
  | [d1, d2, d3] => { results := [.lit (.bool false)], args := [d1, d2, d3] }
  | _ => none }
def ShaCutsWrongFalsely : Prop := shaCutsRow.holds Tryd.pinned (OpenSpec.ofChange shaCutsWrong)

/-- 'indenturelaw03.ShaNone': WHATEVER THE INPUT: true; the input reads as it did. -/
def shaNoneSpec : ChangeSpec := { name := "shaNone", fn := fun _ => fun
  | [d] => { results := [.lit (.bool true)], args := [d] }
  | _ => none }
def shaNoneRow : OpenClaim := { program := "ytdbdconmcgcooaadoor", sum := "f1d02bc8b3e31157862ee5adae94f6f5eb70132d3361579bd86ff8ba67c47f68", func := "indenture/indenturelaw03.ShaNone", spec := "shaNone", named := ["indenture/sha.rounds"], apart := false, laid := [("indenture/sha.rounds", laid_indenture_sha_rounds)] }
def ShaNoneSaid : Prop := shaNoneRow.holds Tryd.pinned (OpenSpec.ofChange shaNoneSpec)

/-- ITS FALSE NEIGHBOUR: 'it returns false'. Refute it at one input. -/
def shaNoneWrong : ChangeSpec := { name := "shaNone", fn := fun _ => fun
  | [d] => { results := [.lit (.bool false)], args := [d] }
  | _ => none }
def ShaNoneWrongFalsely : Prop := shaNoneRow.holds Tryd.pinned (OpenSpec.ofChange shaNoneWrong)

/-- 'indenturelaw03.ShaPieces': WHATEVER THE INPUT: true; the input reads as it did. -/
def shaPiecesSpec : ChangeSpec := { name := "shaPieces", fn := fun _ => fun
  | [d1, d2] => { results := [.lit (.bool true)], args := [d1, d2] }
  | _ => none }
def shaPiecesRow : OpenClaim := { program := "ytdbdconmcgcooaadoor", sum := "f1d02bc8b3e31157862ee5adae94f6f5eb70132d3361579bd86ff8ba67c47f68", func := "indenture/indenturelaw03.ShaPieces", spec := "shaPieces", named := ["indenture/sha.rounds"], apart := false, laid := [("indenture/sha.rounds", laid_indenture_sha_rounds)] }
def ShaPiecesSaid : Prop := shaPiecesRow.holds Tryd.pinned (OpenSpec.ofChange shaPiecesSpec)

/-- ITS FALSE NEIGHBOUR: 'it returns false'. Refute it at one input. -/
def shaPiecesWrong : ChangeSpec := { name := "shaPieces", fn := fun _ => fun
  | [d1, d2] => { results := [.lit (.bool false)], args := [d1, d2] }
  | _ => none }
def ShaPiecesWrongFalsely : Prop := shaPiecesRow.holds Tryd.pinned (OpenSpec.ofChange shaPiecesWrong)

/- THE SECOND FORM. 'bulk': how many values and letters a reading holds, each counted each time it is reached (what is shared counts as often as it is met; a slice's spare places count too). A statement '..UptoSaid' is the law's where the arguments, and the package variables that the reading takes, are together of bulk at most 1048576: NARROWER than '..Said'. Prove '..Said' where nothing that the law and all that it calls make is longer than what came in: it says more and counts as full. Else prove '..UptoSaid'. A law counts once. -/
mutual
def uptoBulk {H : Type} : DataW H → Nat
  | .lit (.string bytes) => bytes.length + 1
  | .lit _ => 1
  | .nil => 1
  | .ptr d => uptoBulk d + 1
  | .slice elems spare => uptoBulkAll elems + uptoBulkAll spare + 1
  | .agg parts => uptoBulkAll parts + 1
  | .iface _ d => uptoBulk d + 1
  | .map entries => uptoBulkEntries entries + 1
  | .held _ => 1
def uptoBulkAll {H : Type} : List (DataW H) → Nat
  | [] => 0
  | d :: r => uptoBulk d + uptoBulkAll r
def uptoBulkEntries {H : Type} : List (Lit × DataW H) → Nat
  | [] => 0
  | x :: r => uptoBulkEntry x + uptoBulkEntries r
def uptoBulkEntry {H : Type} : Lit × DataW H → Nat
  | (.string bytes, d) => bytes.length + uptoBulk d + 1
  | (_, d) => uptoBulk d + 1
 end
def uptoSmall : (H : Type) → List (DataW H) → Bool := fun _ ds => decide (uptoBulkAll ds ≤ 1048576)
def OpenSpec.upto (s : _root_.Go.ChangeSpec) : _root_.Go.OpenSpec := { _root_.Go.OpenSpec.ofChange s with cond := some uptoSmall }

/-- 'indenturelaw03.ShaSums', WHERE WHAT IT READS IS OF BULK AT MOST 1048576: true; the input reads as it did. -/
def shaSumsUptoRow : OpenClaim := { program := "ytdbdconmcgcooaadoor", sum := "f1d02bc8b3e31157862ee5adae94f6f5eb70132d3361579bd86ff8ba67c47f68", func := "indenture/indenturelaw03.ShaSums", spec := "shaSums", named := ["indenture/sha.rounds"], apart := false, laid := [("indenture/sha.rounds", laid_indenture_sha_rounds)], narrowed := true }
def ShaSumsUptoSaid : Prop := shaSumsUptoRow.holds Tryd.pinned (OpenSpec.upto shaSumsSpec)

/-- 'indenturelaw02.SumJoins', WHERE WHAT IT READS IS OF BULK AT MOST 1048576: true; the input reads as it did. -/
def sumJoinsUptoRow : OpenClaim := { program := "ytdbdconmcgcooaadoor", sum := "f1d02bc8b3e31157862ee5adae94f6f5eb70132d3361579bd86ff8ba67c47f68", func := "indenture/indenturelaw02.SumJoins", spec := "sumJoins", named := ["indenture/sum.nibbles"], apart := false, laid := [("indenture/sum.nibbles", laid_indenture_sum_nibbles)], narrowed := true }
def SumJoinsUptoSaid : Prop := sumJoinsUptoRow.holds Tryd.pinned (OpenSpec.upto sumJoinsSpec)

/-- 'indenturelaw04.TagBytes', WHERE WHAT IT READS IS OF BULK AT MOST 1048576: true; the input reads as it did. -/
def tagBytesUptoRow : OpenClaim := { program := "ytdbdconmcgcooaadoor", sum := "f1d02bc8b3e31157862ee5adae94f6f5eb70132d3361579bd86ff8ba67c47f68", func := "indenture/indenturelaw04.TagBytes", spec := "tagBytes", named := ["indenture/sha.rounds"], apart := false, laid := [("indenture/sha.rounds", laid_indenture_sha_rounds)], narrowed := true }
def TagBytesUptoSaid : Prop := tagBytesUptoRow.holds Tryd.pinned (OpenSpec.upto tagBytesSpec)

/-- 'indenturelaw04.TagSides', WHERE WHAT IT READS IS OF BULK AT MOST 1048576: true; the input reads as it did. -/
def tagSidesUptoRow : OpenClaim := { program := "ytdbdconmcgcooaadoor", sum := "f1d02bc8b3e31157862ee5adae94f6f5eb70132d3361579bd86ff8ba67c47f68", func := "indenture/indenturelaw04.TagSides", spec := "tagSides", named := ["indenture/sha.rounds"], apart := false, laid := [("indenture/sha.rounds", laid_indenture_sha_rounds)], narrowed := true }
def TagSidesUptoSaid : Prop := tagSidesUptoRow.holds Tryd.pinned (OpenSpec.upto tagSidesSpec)

/-- 'indenturelaw04.TagForks', WHERE WHAT IT READS IS OF BULK AT MOST 1048576: true; the input reads as it did. -/
def tagForksUptoRow : OpenClaim := { program := "ytdbdconmcgcooaadoor", sum := "f1d02bc8b3e31157862ee5adae94f6f5eb70132d3361579bd86ff8ba67c47f68", func := "indenture/indenturelaw04.TagForks", spec := "tagForks", named := ["indenture/sha.rounds"], apart := false, laid := [("indenture/sha.rounds", laid_indenture_sha_rounds)], narrowed := true }
def TagForksUptoSaid : Prop := tagForksUptoRow.holds Tryd.pinned (OpenSpec.upto tagForksSpec)

/-- 'indenturelaw02.SumFrames', WHERE WHAT IT READS IS OF BULK AT MOST 1048576: true; the input reads as it did. -/
def sumFramesUptoRow : OpenClaim := { program := "ytdbdconmcgcooaadoor", sum := "f1d02bc8b3e31157862ee5adae94f6f5eb70132d3361579bd86ff8ba67c47f68", func := "indenture/indenturelaw02.SumFrames", spec := "sumFrames", named := ["indenture/sum.nibbles"], apart := false, laid := [("indenture/sum.nibbles", laid_indenture_sum_nibbles)], narrowed := true }
def SumFramesUptoSaid : Prop := sumFramesUptoRow.holds Tryd.pinned (OpenSpec.upto sumFramesSpec)

/-- 'indenturelaw02.SumBack', WHERE WHAT IT READS IS OF BULK AT MOST 1048576: true; the input reads as it did. -/
def sumBackUptoRow : OpenClaim := { program := "ytdbdconmcgcooaadoor", sum := "f1d02bc8b3e31157862ee5adae94f6f5eb70132d3361579bd86ff8ba67c47f68", func := "indenture/indenturelaw02.SumBack", spec := "sumBack", named := ["indenture/sum.nibbles"], apart := false, laid := [("indenture/sum.nibbles", laid_indenture_sum_nibbles)], narrowed := true }
def SumBackUptoSaid : Prop := sumBackUptoRow.holds Tryd.pinned (OpenSpec.upto sumBackSpec)

/-- 'indenturelaw02.SumFlips', WHERE WHAT IT READS IS OF BULK AT MOST 1048576: true; the input reads as it did. -/
def sumFlipsUptoRow : OpenClaim := { program := "ytdbdconmcgcooaadoor", sum := "f1d02bc8b3e31157862ee5adae94f6f5eb70132d3361579bd86ff8ba67c47f68", func := "indenture/indenturelaw02.SumFlips", spec := "sumFlips", named := ["indenture/sum.nibbles"], apart := false, laid := [("indenture/sum.nibbles", laid_indenture_sum_nibbles)], narrowed := true }
def SumFlipsUptoSaid : Prop := sumFlipsUptoRow.holds Tryd.pinned (OpenSpec.upto sumFlipsSpec)

/-- 'indenturelaw04.TagApart', WHERE WHAT IT READS IS OF BULK AT MOST 1048576: true; the input reads as it did. -/
def tagApartUptoRow : OpenClaim := { program := "ytdbdconmcgcooaadoor", sum := "f1d02bc8b3e31157862ee5adae94f6f5eb70132d3361579bd86ff8ba67c47f68", func := "indenture/indenturelaw04.TagApart", spec := "tagApart", named := ["indenture/sha.rounds"], apart := false, laid := [("indenture/sha.rounds", laid_indenture_sha_rounds)], narrowed := true }
def TagApartUptoSaid : Prop := tagApartUptoRow.holds Tryd.pinned (OpenSpec.upto tagApartSpec)

/-- 'indenturelaw04.TagHashes', WHERE WHAT IT READS IS OF BULK AT MOST 1048576: true; the input reads as it did. -/
def tagHashesUptoRow : OpenClaim := { program := "ytdbdconmcgcooaadoor", sum := "f1d02bc8b3e31157862ee5adae94f6f5eb70132d3361579bd86ff8ba67c47f68", func := "indenture/indenturelaw04.TagHashes", spec := "tagHashes", named := ["indenture/sha.rounds"], apart := false, laid := [("indenture/sha.rounds", laid_indenture_sha_rounds)], narrowed := true }
def TagHashesUptoSaid : Prop := tagHashesUptoRow.holds Tryd.pinned (OpenSpec.upto tagHashesSpec)

/-- 'indenturelaw03.ShaDigits', WHERE WHAT IT READS IS OF BULK AT MOST 1048576: true; the input reads as it did. -/
def shaDigitsUptoRow : OpenClaim := { program := "ytdbdconmcgcooaadoor", sum := "f1d02bc8b3e31157862ee5adae94f6f5eb70132d3361579bd86ff8ba67c47f68", func := "indenture/indenturelaw03.ShaDigits", spec := "shaDigits", named := ["indenture/sha.rounds"], apart := false, laid := [("indenture/sha.rounds", laid_indenture_sha_rounds)], narrowed := true }
def ShaDigitsUptoSaid : Prop := shaDigitsUptoRow.holds Tryd.pinned (OpenSpec.upto shaDigitsSpec)

/-- 'indenturelaw03.ShaHexes', WHERE WHAT IT READS IS OF BULK AT MOST 1048576: true; the input reads as it did. -/
def shaHexesUptoRow : OpenClaim := { program := "ytdbdconmcgcooaadoor", sum := "f1d02bc8b3e31157862ee5adae94f6f5eb70132d3361579bd86ff8ba67c47f68", func := "indenture/indenturelaw03.ShaHexes", spec := "shaHexes", named := ["indenture/sha.rounds"], apart := false, laid := [("indenture/sha.rounds", laid_indenture_sha_rounds)], narrowed := true }
def ShaHexesUptoSaid : Prop := shaHexesUptoRow.holds Tryd.pinned (OpenSpec.upto shaHexesSpec)

/-- 'indenturelaw03.ShaCuts', WHERE WHAT IT READS IS OF BULK AT MOST 1048576: true; the input reads as it did. -/
def shaCutsUptoRow : OpenClaim := { program := "ytdbdconmcgcooaadoor", sum := "f1d02bc8b3e31157862ee5adae94f6f5eb70132d3361579bd86ff8ba67c47f68", func := "indenture/indenturelaw03.ShaCuts", spec := "shaCuts", named := ["indenture/sha.rounds"], apart := false, laid := [("indenture/sha.rounds", laid_indenture_sha_rounds)], narrowed := true }
def ShaCutsUptoSaid : Prop := shaCutsUptoRow.holds Tryd.pinned (OpenSpec.upto shaCutsSpec)

/-- 'indenturelaw03.ShaNone', WHERE WHAT IT READS IS OF BULK AT MOST 1048576: true; the input reads as it did. -/
def shaNoneUptoRow : OpenClaim := { program := "ytdbdconmcgcooaadoor", sum := "f1d02bc8b3e31157862ee5adae94f6f5eb70132d3361579bd86ff8ba67c47f68", func := "indenture/indenturelaw03.ShaNone", spec := "shaNone", named := ["indenture/sha.rounds"], apart := false, laid := [("indenture/sha.rounds", laid_indenture_sha_rounds)], narrowed := true }
def ShaNoneUptoSaid : Prop := shaNoneUptoRow.holds Tryd.pinned (OpenSpec.upto shaNoneSpec)

/-- 'indenturelaw03.ShaPieces', WHERE WHAT IT READS IS OF BULK AT MOST 1048576: true; the input reads as it did. -/
def shaPiecesUptoRow : OpenClaim := { program := "ytdbdconmcgcooaadoor", sum := "f1d02bc8b3e31157862ee5adae94f6f5eb70132d3361579bd86ff8ba67c47f68", func := "indenture/indenturelaw03.ShaPieces", spec := "shaPieces", named := ["indenture/sha.rounds"], apart := false, laid := [("indenture/sha.rounds", laid_indenture_sha_rounds)], narrowed := true }
def ShaPiecesUptoSaid : Prop := shaPiecesUptoRow.holds Tryd.pinned (OpenSpec.upto shaPiecesSpec)

end Rows
end Go.Proofs.YtdbdconmcgcooaaDoor
