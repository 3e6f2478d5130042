/-
  NARROWER THAN 'FOR EVERY INPUT', by the rows' own cells (each row's printed sentence says how): MultiProves: laid · MemberNone: laid · MemberChecks: laid · TrieBits: laid · TrieGets: laid · TrieActs: laid · TrieOrder: laid · TrieNone: laid · TrieAlike: laid · MemberProves: laid · MemberHolds: laid · MemberOthers: laid · MemberChanges: laid · MultiChecks: laid · MultiOthers: laid · MultiHolds: laid · MultiBack: laid.
  DERIVED. THE GIVEN ROWS OF THIS SEAT. 17 by the template 'for every input the law returns true; each argument reads behind the call as it read before'; 0 by the template 'total and deterministic' (their statements: YtkfkdakghjlenaaDoorTotals.lean).
  GIVEN WITH THE SEED: the statements are not yours to turn. If you find one false, say at which input.
  Laid BY PROGRAM, IN A SANDBOX (cutbox-rows.mjs): the forced cells as the released guide's own fill.sh prints them over the translation 0427c88b1fe3051b… (all of the seat's roots in one cut). By AI agents, Wed Nov 11 2026. No macro, syntax, notation, axiom, sorry.
-/
import Derived.Test.YtkfkdakghjlenaaDoorChecked
import GoSem.Claim
import GoSem.ClaimJoined
import GoSem.ClaimMapViews
import Derived.JoinedTies
import Derived.KernelRfl
namespace Go.Proofs.YtkfkdakghjlenaaDoor
/- THE CELL 'sum', in the pinned program and in every row, IS THE sha256 OF THE DUMP (.gsa) THAT YtkfkdakghjlenaaDoorProg.lean LOADS. Nothing in Lean hashes anything: it is a label: what it is worth is what the hold of that sum in a sandbox is worth. -/
noncomputable def Tryd.pinned : Pinned := { name := "ytkfkdakghjlenaadoor", sum := "0427c88b1fe3051bac810f9aadf1db0bacb4eaecc0e94d728fb6e87178e523b2", checked := Tryd.checked }
namespace Rows
def none {H : Type} : Left H := { results := [], args := [] }

/- WHAT THE LISTED PACKAGE-LEVEL VARIABLES READ AS WHEN THE CALL BEGINS. Each datum BY PROGRAM (the guide's laid-datum.mjs) off the statement by which the dump's own 'gosem.cut.vars' lays the variable. In a bare row this is a premise. The card (YtkfkdakghjlenaaDoorCards.lean) ties it to the program's text. -/
def laid_indenture_sha_rounds {H : Type} : DataW H := .agg [.lit (.int .u32 1116352408), .lit (.int .u32 1899447441), .lit (.int .u32 3049323471), .lit (.int .u32 3921009573), .lit (.int .u32 961987163), .lit (.int .u32 1508970993), .lit (.int .u32 2453635748), .lit (.int .u32 2870763221), .lit (.int .u32 3624381080), .lit (.int .u32 310598401), .lit (.int .u32 607225278), .lit (.int .u32 1426881987), .lit (.int .u32 1925078388), .lit (.int .u32 2162078206), .lit (.int .u32 2614888103), .lit (.int .u32 3248222580), .lit (.int .u32 3835390401), .lit (.int .u32 4022224774), .lit (.int .u32 264347078), .lit (.int .u32 604807628), .lit (.int .u32 770255983), .lit (.int .u32 1249150122), .lit (.int .u32 1555081692), .lit (.int .u32 1996064986), .lit (.int .u32 2554220882), .lit (.int .u32 2821834349), .lit (.int .u32 2952996808), .lit (.int .u32 3210313671), .lit (.int .u32 3336571891), .lit (.int .u32 3584528711), .lit (.int .u32 113926993), .lit (.int .u32 338241895), .lit (.int .u32 666307205), .lit (.int .u32 773529912), .lit (.int .u32 1294757372), .lit (.int .u32 1396182291), .lit (.int .u32 1695183700), .lit (.int .u32 1986661051), .lit (.int .u32 2177026350), .lit (.int .u32 2456956037), .lit (.int .u32 2730485921), .lit (.int .u32 2820302411), .lit (.int .u32 3259730800), .lit (.int .u32 3345764771), .lit (.int .u32 3516065817), .lit (.int .u32 3600352804), .lit (.int .u32 4094571909), .lit (.int .u32 275423344), .lit (.int .u32 430227734), .lit (.int .u32 506948616), .lit (.int .u32 659060556), .lit (.int .u32 883997877), .lit (.int .u32 958139571), .lit (.int .u32 1322822218), .lit (.int .u32 1537002063), .lit (.int .u32 1747873779), .lit (.int .u32 1955562222), .lit (.int .u32 2024104815), .lit (.int .u32 2227730452), .lit (.int .u32 2361852424), .lit (.int .u32 2428436474), .lit (.int .u32 2756734187), .lit (.int .u32 3204031479), .lit (.int .u32 3329325298)]

/-- 'indenturelaw27.MultiProves': WHATEVER THE INPUT: true; the input reads as it did. -/
def multiProvesSpec : ChangeSpec := { name := "multiProves", fn := fun _ => fun
  | [d1, d2] => { results := [.lit (.bool true)], args := [d1, d2] }
  | _ => none }
def multiProvesRow : OpenClaim := { program := "ytkfkdakghjlenaadoor", sum := "0427c88b1fe3051bac810f9aadf1db0bacb4eaecc0e94d728fb6e87178e523b2", func := "indenture/indenturelaw27.MultiProves", spec := "multiProves", unfollowed := true, recurses := true, named := ["indenture/sha.rounds"], apart := false, laid := [("indenture/sha.rounds", laid_indenture_sha_rounds)] }
def MultiProvesSaid : Prop := multiProvesRow.holds Tryd.pinned (OpenSpec.ofChange multiProvesSpec)

/-- ITS FALSE NEIGHBOUR: 'it returns false'. Refute it at one input. -/
def multiProvesWrong : ChangeSpec := { name := "multiProves", fn := fun _ => fun
  | [d1, d2] => { results := [.lit (.bool false)], args := [d1, d2] }
  | _ => none }
def MultiProvesWrongFalsely : Prop := multiProvesRow.holds Tryd.pinned (OpenSpec.ofChange multiProvesWrong)

/-- 'indenturelaw12.MemberNone': WHATEVER THE INPUT: true; the input reads as it did. -/
def memberNoneSpec : ChangeSpec := { name := "memberNone", fn := fun _ => fun
  | [d] => { results := [.lit (.bool true)], args := [d] }
  | _ => none }
def memberNoneRow : OpenClaim := { program := "ytkfkdakghjlenaadoor", sum := "0427c88b1fe3051bac810f9aadf1db0bacb4eaecc0e94d728fb6e87178e523b2", func := "indenture/indenturelaw12.MemberNone", spec := "memberNone", inPlace := ["sync/atomic.LoadUint32", "(*internal/sync.Mutex).Lock", "internal/race.Disable", "sync/atomic.CompareAndSwapInt32", "internal/race.Enable", "internal/race.Acquire", "(*internal/sync.Mutex).lockSlow", "internal/sync.runtime_canSpin", "internal/sync.runtime_doSpin", "internal/sync.throw", "internal/sync.runtime_nanotime", "internal/sync.runtime_SemacquireMutex", "sync/atomic.AddInt32", "(*internal/sync.Mutex).Unlock", "internal/race.ReleaseMerge", "(*internal/sync.Mutex).unlockSlow", "internal/sync.fatal", "internal/sync.runtime_Semrelease", "sync/atomic.StoreUint32"], unfollowed := true, recurses := true, named := ["indenture/sha.rounds"], apart := false, laid := [("indenture/sha.rounds", laid_indenture_sha_rounds)] }
def MemberNoneSaid : Prop := memberNoneRow.holds Tryd.pinned (OpenSpec.ofChange memberNoneSpec)

/-- ITS FALSE NEIGHBOUR: 'it returns false'. Refute it at one input. -/
def memberNoneWrong : ChangeSpec := { name := "memberNone", fn := fun _ => fun
  | [d] => { results := [.lit (.bool false)], args := [d] }
  | _ => none }
def MemberNoneWrongFalsely : Prop := memberNoneRow.holds Tryd.pinned (OpenSpec.ofChange memberNoneWrong)

/-- 'indenturelaw12.MemberChecks': WHATEVER THE INPUT: true; the input reads as it did. -/
def memberChecksSpec : ChangeSpec := { name := "memberChecks", fn := fun _ => fun
  | [d1, d2, d3] => { results := [.lit (.bool true)], args := [d1, d2, d3] }
  | _ => none }
def memberChecksRow : OpenClaim := { program := "ytkfkdakghjlenaadoor", sum := "0427c88b1fe3051bac810f9aadf1db0bacb4eaecc0e94d728fb6e87178e523b2", func := "indenture/indenturelaw12.MemberChecks", spec := "memberChecks", inPlace := ["sync/atomic.LoadUint32", "(*internal/sync.Mutex).Lock", "internal/race.Disable", "sync/atomic.CompareAndSwapInt32", "internal/race.Enable", "internal/race.Acquire", "(*internal/sync.Mutex).lockSlow", "internal/sync.runtime_canSpin", "internal/sync.runtime_doSpin", "internal/sync.throw", "internal/sync.runtime_nanotime", "internal/sync.runtime_SemacquireMutex", "sync/atomic.AddInt32", "(*internal/sync.Mutex).Unlock", "internal/race.ReleaseMerge", "(*internal/sync.Mutex).unlockSlow", "internal/sync.fatal", "internal/sync.runtime_Semrelease", "sync/atomic.StoreUint32"], unfollowed := true, recurses := true, named := ["indenture/sha.rounds"], apart := false, laid := [("indenture/sha.rounds", laid_indenture_sha_rounds)] }
def MemberChecksSaid : Prop := memberChecksRow.holds Tryd.pinned (OpenSpec.ofChange memberChecksSpec)

/-- ITS FALSE NEIGHBOUR: 'it returns false'. Refute it at one input. -/
def memberChecksWrong : ChangeSpec := { name := "memberChecks", fn := fun _ => fun
  | [d1, d2, d3] => { results := [.lit (.bool false)], args := [d1, d2, d3] }
  | _ => none }
def MemberChecksWrongFalsely : Prop := memberChecksRow.holds Tryd.pinned (OpenSpec.ofChange memberChecksWrong)

/-- 'indenturelaw11.TrieBits': WHATEVER THE INPUT: true; the input reads as it did. -/
def trieBitsSpec : ChangeSpec := { name := "trieBits", fn := fun _ => fun
  | [d1, d2, d3] => { results := [.lit (.bool true)], args := [d1, d2, d3] }
  | _ => none }
def trieBitsRow : OpenClaim := { program := "ytkfkdakghjlenaadoor", sum := "0427c88b1fe3051bac810f9aadf1db0bacb4eaecc0e94d728fb6e87178e523b2", func := "indenture/indenturelaw11.TrieBits", spec := "trieBits", inPlace := ["sync/atomic.LoadUint32", "(*internal/sync.Mutex).Lock", "internal/race.Disable", "sync/atomic.CompareAndSwapInt32", "internal/race.Enable", "internal/race.Acquire", "(*internal/sync.Mutex).lockSlow", "internal/sync.runtime_canSpin", "internal/sync.runtime_doSpin", "internal/sync.throw", "internal/sync.runtime_nanotime", "internal/sync.runtime_SemacquireMutex", "sync/atomic.AddInt32", "(*internal/sync.Mutex).Unlock", "internal/race.ReleaseMerge", "(*internal/sync.Mutex).unlockSlow", "internal/sync.fatal", "internal/sync.runtime_Semrelease", "sync/atomic.StoreUint32"], unfollowed := true, recurses := true, named := ["indenture/sha.rounds"], apart := false, laid := [("indenture/sha.rounds", laid_indenture_sha_rounds)] }
def TrieBitsSaid : Prop := trieBitsRow.holds Tryd.pinned (OpenSpec.ofChange trieBitsSpec)

/-- ITS FALSE NEIGHBOUR: 'it returns false'. Refute it at one input. -/
def trieBitsWrong : ChangeSpec := { name := "trieBits", fn := fun _ => fun
  | [d1, d2, d3] => { results := [.lit (.bool false)], args := [d1, d2, d3] }
  | _ => none }
def TrieBitsWrongFalsely : Prop := trieBitsRow.holds Tryd.pinned (OpenSpec.ofChange trieBitsWrong)

/-- 'indenturelaw11.TrieGets': WHATEVER THE INPUT: true; the input reads as it did. -/
def trieGetsSpec : ChangeSpec := { name := "trieGets", fn := fun _ => fun
  | [d1, d2, d3] => { results := [.lit (.bool true)], args := [d1, d2, d3] }
  | _ => none }
def trieGetsRow : OpenClaim := { program := "ytkfkdakghjlenaadoor", sum := "0427c88b1fe3051bac810f9aadf1db0bacb4eaecc0e94d728fb6e87178e523b2", func := "indenture/indenturelaw11.TrieGets", spec := "trieGets", inPlace := ["sync/atomic.LoadUint32", "(*internal/sync.Mutex).Lock", "internal/race.Disable", "sync/atomic.CompareAndSwapInt32", "internal/race.Enable", "internal/race.Acquire", "(*internal/sync.Mutex).lockSlow", "internal/sync.runtime_canSpin", "internal/sync.runtime_doSpin", "internal/sync.throw", "internal/sync.runtime_nanotime", "internal/sync.runtime_SemacquireMutex", "sync/atomic.AddInt32", "(*internal/sync.Mutex).Unlock", "internal/race.ReleaseMerge", "(*internal/sync.Mutex).unlockSlow", "internal/sync.fatal", "internal/sync.runtime_Semrelease", "sync/atomic.StoreUint32"], unfollowed := true, recurses := true, named := ["indenture/sha.rounds"], apart := false, laid := [("indenture/sha.rounds", laid_indenture_sha_rounds)] }
def TrieGetsSaid : Prop := trieGetsRow.holds Tryd.pinned (OpenSpec.ofChange trieGetsSpec)

/-- ITS FALSE NEIGHBOUR: 'it returns false'. Refute it at one input. -/
def trieGetsWrong : ChangeSpec := { name := "trieGets", fn := fun _ => fun
  | [d1, d2, d3] => { results := [.lit (.bool false)], args := [d1, d2, d3] }
  | _ => none }
def TrieGetsWrongFalsely : Prop := trieGetsRow.holds Tryd.pinned (OpenSpec.ofChange trieGetsWrong)

/-- 'indenturelaw11.TrieActs': WHATEVER THE INPUT: true; the input reads as it did. -/
def trieActsSpec : ChangeSpec := { name := "trieActs", fn := fun _ => fun
  | [d1, d2, d3] => { results := [.lit (.bool true)], args := [d1, d2, d3] }
  | _ => none }
def trieActsRow : OpenClaim := { program := "ytkfkdakghjlenaadoor", sum := "0427c88b1fe3051bac810f9aadf1db0bacb4eaecc0e94d728fb6e87178e523b2", func := "indenture/indenturelaw11.TrieActs", spec := "trieActs", inPlace := ["sync/atomic.LoadUint32", "(*internal/sync.Mutex).Lock", "internal/race.Disable", "sync/atomic.CompareAndSwapInt32", "internal/race.Enable", "internal/race.Acquire", "(*internal/sync.Mutex).lockSlow", "internal/sync.runtime_canSpin", "internal/sync.runtime_doSpin", "internal/sync.throw", "internal/sync.runtime_nanotime", "internal/sync.runtime_SemacquireMutex", "sync/atomic.AddInt32", "(*internal/sync.Mutex).Unlock", "internal/race.ReleaseMerge", "(*internal/sync.Mutex).unlockSlow", "internal/sync.fatal", "internal/sync.runtime_Semrelease", "sync/atomic.StoreUint32"], unfollowed := true, recurses := true, named := ["indenture/sha.rounds"], apart := false, laid := [("indenture/sha.rounds", laid_indenture_sha_rounds)] }
def TrieActsSaid : Prop := trieActsRow.holds Tryd.pinned (OpenSpec.ofChange trieActsSpec)

/-- ITS FALSE NEIGHBOUR: 'it returns false'. Refute it at one input. -/
def trieActsWrong : ChangeSpec := { name := "trieActs", fn := fun _ => fun
  | [d1, d2, d3] => { results := [.lit (.bool false)], args := [d1, d2, d3] }
  | _ => none }
def TrieActsWrongFalsely : Prop := trieActsRow.holds Tryd.pinned (OpenSpec.ofChange trieActsWrong)

/-- 'indenturelaw11.TrieOrder': WHATEVER THE INPUT: true; the input reads as it did. -/
def trieOrderSpec : ChangeSpec := { name := "trieOrder", fn := fun _ => fun
  | [d1, d2] => { results := [.lit (.bool true)], args := [d1, d2] }
  | _ => none }
def trieOrderRow : OpenClaim := { program := "ytkfkdakghjlenaadoor", sum := "0427c88b1fe3051bac810f9aadf1db0bacb4eaecc0e94d728fb6e87178e523b2", func := "indenture/indenturelaw11.TrieOrder", spec := "trieOrder", inPlace := ["sync/atomic.LoadUint32", "(*internal/sync.Mutex).Lock", "internal/race.Disable", "sync/atomic.CompareAndSwapInt32", "internal/race.Enable", "internal/race.Acquire", "(*internal/sync.Mutex).lockSlow", "internal/sync.runtime_canSpin", "internal/sync.runtime_doSpin", "internal/sync.throw", "internal/sync.runtime_nanotime", "internal/sync.runtime_SemacquireMutex", "sync/atomic.AddInt32", "(*internal/sync.Mutex).Unlock", "internal/race.ReleaseMerge", "(*internal/sync.Mutex).unlockSlow", "internal/sync.fatal", "internal/sync.runtime_Semrelease", "sync/atomic.StoreUint32"], unfollowed := true, recurses := true, named := ["indenture/sha.rounds"], apart := false, laid := [("indenture/sha.rounds", laid_indenture_sha_rounds)] }
def TrieOrderSaid : Prop := trieOrderRow.holds Tryd.pinned (OpenSpec.ofChange trieOrderSpec)

/-- ITS FALSE NEIGHBOUR: 'it returns false'. Refute it at one input. -/
def trieOrderWrong : ChangeSpec := { name := "trieOrder", fn := fun _ => fun
  | [d1, d2] => { results := [.lit (.bool false)], args := [d1, d2] }
  | _ => none }
def TrieOrderWrongFalsely : Prop := trieOrderRow.holds Tryd.pinned (OpenSpec.ofChange trieOrderWrong)

/-- 'indenturelaw11.TrieNone': WHATEVER THE INPUT: true; the input reads as it did. -/
def trieNoneSpec : ChangeSpec := { name := "trieNone", fn := fun _ => fun
  | [d] => { results := [.lit (.bool true)], args := [d] }
  | _ => none }
def trieNoneRow : OpenClaim := { program := "ytkfkdakghjlenaadoor", sum := "0427c88b1fe3051bac810f9aadf1db0bacb4eaecc0e94d728fb6e87178e523b2", func := "indenture/indenturelaw11.TrieNone", spec := "trieNone", inPlace := ["sync/atomic.LoadUint32", "(*internal/sync.Mutex).Lock", "internal/race.Disable", "sync/atomic.CompareAndSwapInt32", "internal/race.Enable", "internal/race.Acquire", "(*internal/sync.Mutex).lockSlow", "internal/sync.runtime_canSpin", "internal/sync.runtime_doSpin", "internal/sync.throw", "internal/sync.runtime_nanotime", "internal/sync.runtime_SemacquireMutex", "sync/atomic.AddInt32", "(*internal/sync.Mutex).Unlock", "internal/race.ReleaseMerge", "(*internal/sync.Mutex).unlockSlow", "internal/sync.fatal", "internal/sync.runtime_Semrelease", "sync/atomic.StoreUint32"], unfollowed := true, recurses := true, named := ["indenture/sha.rounds"], apart := false, laid := [("indenture/sha.rounds", laid_indenture_sha_rounds)] }
def TrieNoneSaid : Prop := trieNoneRow.holds Tryd.pinned (OpenSpec.ofChange trieNoneSpec)

/-- ITS FALSE NEIGHBOUR: 'it returns false'. Refute it at one input. -/
def trieNoneWrong : ChangeSpec := { name := "trieNone", fn := fun _ => fun
  | [d] => { results := [.lit (.bool false)], args := [d] }
  | _ => none }
def TrieNoneWrongFalsely : Prop := trieNoneRow.holds Tryd.pinned (OpenSpec.ofChange trieNoneWrong)

/-- 'indenturelaw11.TrieAlike': WHATEVER THE INPUT: true; the input reads as it did. -/
def trieAlikeSpec : ChangeSpec := { name := "trieAlike", fn := fun _ => fun
  | [d1, d2] => { results := [.lit (.bool true)], args := [d1, d2] }
  | _ => none }
def trieAlikeRow : OpenClaim := { program := "ytkfkdakghjlenaadoor", sum := "0427c88b1fe3051bac810f9aadf1db0bacb4eaecc0e94d728fb6e87178e523b2", func := "indenture/indenturelaw11.TrieAlike", spec := "trieAlike", inPlace := ["sync/atomic.LoadUint32", "(*internal/sync.Mutex).Lock", "internal/race.Disable", "sync/atomic.CompareAndSwapInt32", "internal/race.Enable", "internal/race.Acquire", "(*internal/sync.Mutex).lockSlow", "internal/sync.runtime_canSpin", "internal/sync.runtime_doSpin", "internal/sync.throw", "internal/sync.runtime_nanotime", "internal/sync.runtime_SemacquireMutex", "sync/atomic.AddInt32", "(*internal/sync.Mutex).Unlock", "internal/race.ReleaseMerge", "(*internal/sync.Mutex).unlockSlow", "internal/sync.fatal", "internal/sync.runtime_Semrelease", "sync/atomic.StoreUint32"], unfollowed := true, recurses := true, named := ["indenture/sha.rounds"], apart := false, laid := [("indenture/sha.rounds", laid_indenture_sha_rounds)] }
def TrieAlikeSaid : Prop := trieAlikeRow.holds Tryd.pinned (OpenSpec.ofChange trieAlikeSpec)

/-- ITS FALSE NEIGHBOUR: 'it returns false'. Refute it at one input. -/
def trieAlikeWrong : ChangeSpec := { name := "trieAlike", fn := fun _ => fun
  | [d1, d2] => { results := [.lit (.bool false)], args := [d1, d2] }
  | _ => none }
def TrieAlikeWrongFalsely : Prop := trieAlikeRow.holds Tryd.pinned (OpenSpec.ofChange trieAlikeWrong)

/-- 'indenturelaw12.MemberProves': WHATEVER THE INPUT: true; the input reads as it did. -/
def memberProvesSpec : ChangeSpec := { name := "memberProves", fn := fun _ => fun
  | [d1, d2, d3] => { results := [.lit (.bool true)], args := [d1, d2, d3] }
  | _ => none }
def memberProvesRow : OpenClaim := { program := "ytkfkdakghjlenaadoor", sum := "0427c88b1fe3051bac810f9aadf1db0bacb4eaecc0e94d728fb6e87178e523b2", func := "indenture/indenturelaw12.MemberProves", spec := "memberProves", inPlace := ["sync/atomic.LoadUint32", "(*internal/sync.Mutex).Lock", "internal/race.Disable", "sync/atomic.CompareAndSwapInt32", "internal/race.Enable", "internal/race.Acquire", "(*internal/sync.Mutex).lockSlow", "internal/sync.runtime_canSpin", "internal/sync.runtime_doSpin", "internal/sync.throw", "internal/sync.runtime_nanotime", "internal/sync.runtime_SemacquireMutex", "sync/atomic.AddInt32", "(*internal/sync.Mutex).Unlock", "internal/race.ReleaseMerge", "(*internal/sync.Mutex).unlockSlow", "internal/sync.fatal", "internal/sync.runtime_Semrelease", "sync/atomic.StoreUint32"], unfollowed := true, recurses := true, named := ["indenture/sha.rounds"], apart := false, laid := [("indenture/sha.rounds", laid_indenture_sha_rounds)] }
def MemberProvesSaid : Prop := memberProvesRow.holds Tryd.pinned (OpenSpec.ofChange memberProvesSpec)

/-- ITS FALSE NEIGHBOUR: 'it returns false'. Refute it at one input. -/
def memberProvesWrong : ChangeSpec := { name := "memberProves", fn := fun _ => fun
  | [d1, d2, d3] => { results := [.lit (.bool false)], args := [d1, d2, d3] }
  | _ => none }
def MemberProvesWrongFalsely : Prop := memberProvesRow.holds Tryd.pinned (OpenSpec.ofChange memberProvesWrong)

/-- 'indenturelaw12.MemberHolds': WHATEVER THE INPUT: true; the input reads as it did. -/
def memberHoldsSpec : ChangeSpec := { name := "memberHolds", fn := fun _ => fun
  | [d1, d2] => { results := [.lit (.bool true)], args := [d1, d2] }
  | _ => none }
def memberHoldsRow : OpenClaim := { program := "ytkfkdakghjlenaadoor", sum := "0427c88b1fe3051bac810f9aadf1db0bacb4eaecc0e94d728fb6e87178e523b2", func := "indenture/indenturelaw12.MemberHolds", spec := "memberHolds", inPlace := ["sync/atomic.LoadUint32", "(*internal/sync.Mutex).Lock", "internal/race.Disable", "sync/atomic.CompareAndSwapInt32", "internal/race.Enable", "internal/race.Acquire", "(*internal/sync.Mutex).lockSlow", "internal/sync.runtime_canSpin", "internal/sync.runtime_doSpin", "internal/sync.throw", "internal/sync.runtime_nanotime", "internal/sync.runtime_SemacquireMutex", "sync/atomic.AddInt32", "(*internal/sync.Mutex).Unlock", "internal/race.ReleaseMerge", "(*internal/sync.Mutex).unlockSlow", "internal/sync.fatal", "internal/sync.runtime_Semrelease", "sync/atomic.StoreUint32"], unfollowed := true, recurses := true, named := ["indenture/sha.rounds"], apart := false, laid := [("indenture/sha.rounds", laid_indenture_sha_rounds)] }
def MemberHoldsSaid : Prop := memberHoldsRow.holds Tryd.pinned (OpenSpec.ofChange memberHoldsSpec)

/-- ITS FALSE NEIGHBOUR: 'it returns false'. Refute it at one input. -/
def memberHoldsWrong : ChangeSpec := { name := "memberHolds", fn := fun _ => fun
  | [d1, d2] => { results := [.lit (.bool false)], args := [d1, d2] }
  | _ => none }
def MemberHoldsWrongFalsely : Prop := memberHoldsRow.holds Tryd.pinned (OpenSpec.ofChange memberHoldsWrong)

/-- 'indenturelaw12.MemberOthers': WHATEVER THE INPUT: true; the input reads as it did. -/
def memberOthersSpec : ChangeSpec := { name := "memberOthers", fn := fun _ => fun
  | [d1, d2, d3] => { results := [.lit (.bool true)], args := [d1, d2, d3] }
  | _ => none }
def memberOthersRow : OpenClaim := { program := "ytkfkdakghjlenaadoor", sum := "0427c88b1fe3051bac810f9aadf1db0bacb4eaecc0e94d728fb6e87178e523b2", func := "indenture/indenturelaw12.MemberOthers", spec := "memberOthers", inPlace := ["sync/atomic.LoadUint32", "(*internal/sync.Mutex).Lock", "internal/race.Disable", "sync/atomic.CompareAndSwapInt32", "internal/race.Enable", "internal/race.Acquire", "(*internal/sync.Mutex).lockSlow", "internal/sync.runtime_canSpin", "internal/sync.runtime_doSpin", "internal/sync.throw", "internal/sync.runtime_nanotime", "internal/sync.runtime_SemacquireMutex", "sync/atomic.AddInt32", "(*internal/sync.Mutex).Unlock", "internal/race.ReleaseMerge", "(*internal/sync.Mutex).unlockSlow", "internal/sync.fatal", "internal/sync.runtime_Semrelease", "sync/atomic.StoreUint32"], unfollowed := true, recurses := true, named := ["indenture/sha.rounds"], apart := false, laid := [("indenture/sha.rounds", laid_indenture_sha_rounds)] }
def MemberOthersSaid : Prop := memberOthersRow.holds Tryd.pinned (OpenSpec.ofChange memberOthersSpec)

/-- ITS FALSE NEIGHBOUR: 'it returns false'. Refute it at one input. -/
def memberOthersWrong : ChangeSpec := { name := "memberOthers", fn := fun _ => fun
  | [d1, d2, d3] => { results := [.lit (.bool false)], args := [d1, d2, d3] }
  | _ => none }
def MemberOthersWrongFalsely : Prop := memberOthersRow.holds Tryd.pinned (OpenSpec.ofChange memberOthersWrong)

/-- 'indenturelaw12.MemberChanges': WHATEVER THE INPUT: true; the input reads as it did. -/
def memberChangesSpec : ChangeSpec := { name := "memberChanges", fn := fun _ => fun
  | [d1, d2, d3] => { results := [.lit (.bool true)], args := [d1, d2, d3] }
  | _ => none }
def memberChangesRow : OpenClaim := { program := "ytkfkdakghjlenaadoor", sum := "0427c88b1fe3051bac810f9aadf1db0bacb4eaecc0e94d728fb6e87178e523b2", func := "indenture/indenturelaw12.MemberChanges", spec := "memberChanges", inPlace := ["sync/atomic.LoadUint32", "(*internal/sync.Mutex).Lock", "internal/race.Disable", "sync/atomic.CompareAndSwapInt32", "internal/race.Enable", "internal/race.Acquire", "(*internal/sync.Mutex).lockSlow", "internal/sync.runtime_canSpin", "internal/sync.runtime_doSpin", "internal/sync.throw", "internal/sync.runtime_nanotime", "internal/sync.runtime_SemacquireMutex", "sync/atomic.AddInt32", "(*internal/sync.Mutex).Unlock", "internal/race.ReleaseMerge", "(*internal/sync.Mutex).unlockSlow", "internal/sync.fatal", "internal/sync.runtime_Semrelease", "sync/atomic.StoreUint32"], unfollowed := true, recurses := true, named := ["indenture/sha.rounds"], apart := false, laid := [("indenture/sha.rounds", laid_indenture_sha_rounds)] }
def MemberChangesSaid : Prop := memberChangesRow.holds Tryd.pinned (OpenSpec.ofChange memberChangesSpec)

/-- ITS FALSE NEIGHBOUR: 'it returns false'. Refute it at one input. -/
def memberChangesWrong : ChangeSpec := { name := "memberChanges", fn := fun _ => fun
  | [d1, d2, d3] => { results := [.lit (.bool false)], args := [d1, d2, d3] }
  | _ => none }
def MemberChangesWrongFalsely : Prop := memberChangesRow.holds Tryd.pinned (OpenSpec.ofChange memberChangesWrong)

/-- 'indenturelaw27.MultiChecks': WHATEVER THE INPUT: true; the input reads as it did. -/
def multiChecksSpec : ChangeSpec := { name := "multiChecks", fn := fun _ => fun
  | [d1, d2, d3] => { results := [.lit (.bool true)], args := [d1, d2, d3] }
  | _ => none }
def multiChecksRow : OpenClaim := { program := "ytkfkdakghjlenaadoor", sum := "0427c88b1fe3051bac810f9aadf1db0bacb4eaecc0e94d728fb6e87178e523b2", func := "indenture/indenturelaw27.MultiChecks", spec := "multiChecks", unfollowed := true, recurses := true, named := ["indenture/sha.rounds"], apart := false, laid := [("indenture/sha.rounds", laid_indenture_sha_rounds)] }
def MultiChecksSaid : Prop := multiChecksRow.holds Tryd.pinned (OpenSpec.ofChange multiChecksSpec)

/-- ITS FALSE NEIGHBOUR: 'it returns false'. Refute it at one input. -/
def multiChecksWrong : ChangeSpec := { name := "multiChecks", fn := fun _ => fun
  | [d1, d2, d3] => { results := [.lit (.bool false)], args := [d1, d2, d3] }
  | _ => none }
def MultiChecksWrongFalsely : Prop := multiChecksRow.holds Tryd.pinned (OpenSpec.ofChange multiChecksWrong)

/-- 'indenturelaw27.MultiOthers': WHATEVER THE INPUT: true; the input reads as it did. -/
def multiOthersSpec : ChangeSpec := { name := "multiOthers", fn := fun _ => fun
  | [d1, d2, d3] => { results := [.lit (.bool true)], args := [d1, d2, d3] }
  | _ => none }
def multiOthersRow : OpenClaim := { program := "ytkfkdakghjlenaadoor", sum := "0427c88b1fe3051bac810f9aadf1db0bacb4eaecc0e94d728fb6e87178e523b2", func := "indenture/indenturelaw27.MultiOthers", spec := "multiOthers", inPlace := ["sync/atomic.LoadUint32", "(*internal/sync.Mutex).Lock", "internal/race.Disable", "sync/atomic.CompareAndSwapInt32", "internal/race.Enable", "internal/race.Acquire", "(*internal/sync.Mutex).lockSlow", "internal/sync.runtime_canSpin", "internal/sync.runtime_doSpin", "internal/sync.throw", "internal/sync.runtime_nanotime", "internal/sync.runtime_SemacquireMutex", "sync/atomic.AddInt32", "(*internal/sync.Mutex).Unlock", "internal/race.ReleaseMerge", "(*internal/sync.Mutex).unlockSlow", "internal/sync.fatal", "internal/sync.runtime_Semrelease", "sync/atomic.StoreUint32"], unfollowed := true, recurses := true, named := ["indenture/sha.rounds"], apart := false, laid := [("indenture/sha.rounds", laid_indenture_sha_rounds)] }
def MultiOthersSaid : Prop := multiOthersRow.holds Tryd.pinned (OpenSpec.ofChange multiOthersSpec)

/-- ITS FALSE NEIGHBOUR: 'it returns false'. Refute it at one input. -/
def multiOthersWrong : ChangeSpec := { name := "multiOthers", fn := fun _ => fun
  | [d1, d2, d3] => { results := [.lit (.bool false)], args := [d1, d2, d3] }
  | _ => none }
def MultiOthersWrongFalsely : Prop := multiOthersRow.holds Tryd.pinned (OpenSpec.ofChange multiOthersWrong)

/-- 'indenturelaw27.MultiHolds': WHATEVER THE INPUT: true; the input reads as it did. -/
def multiHoldsSpec : ChangeSpec := { name := "multiHolds", fn := fun _ => fun
  | [d1, d2] => { results := [.lit (.bool true)], args := [d1, d2] }
  | _ => none }
def multiHoldsRow : OpenClaim := { program := "ytkfkdakghjlenaadoor", sum := "0427c88b1fe3051bac810f9aadf1db0bacb4eaecc0e94d728fb6e87178e523b2", func := "indenture/indenturelaw27.MultiHolds", spec := "multiHolds", inPlace := ["sync/atomic.LoadUint32", "(*internal/sync.Mutex).Lock", "internal/race.Disable", "sync/atomic.CompareAndSwapInt32", "internal/race.Enable", "internal/race.Acquire", "(*internal/sync.Mutex).lockSlow", "internal/sync.runtime_canSpin", "internal/sync.runtime_doSpin", "internal/sync.throw", "internal/sync.runtime_nanotime", "internal/sync.runtime_SemacquireMutex", "sync/atomic.AddInt32", "(*internal/sync.Mutex).Unlock", "internal/race.ReleaseMerge", "(*internal/sync.Mutex).unlockSlow", "internal/sync.fatal", "internal/sync.runtime_Semrelease", "sync/atomic.StoreUint32"], unfollowed := true, recurses := true, named := ["indenture/sha.rounds"], apart := false, laid := [("indenture/sha.rounds", laid_indenture_sha_rounds)] }
def MultiHoldsSaid : Prop := multiHoldsRow.holds Tryd.pinned (OpenSpec.ofChange multiHoldsSpec)

/-- ITS FALSE NEIGHBOUR: 'it returns false'. Refute it at one input. -/
def multiHoldsWrong : ChangeSpec := { name := "multiHolds", fn := fun _ => fun
  | [d1, d2] => { results := [.lit (.bool false)], args := [d1, d2] }
  | _ => none }
def MultiHoldsWrongFalsely : Prop := multiHoldsRow.holds Tryd.pinned (OpenSpec.ofChange multiHoldsWrong)

/-- 'indenturelaw27.MultiBack': WHATEVER THE INPUT: true; the input reads as it did. -/
def multiBackSpec : ChangeSpec := { name := "multiBack", fn := fun _ => fun
  | [d1, d2, d3] => { results := [.lit (.bool true)], args := [d1, d2, d3] }
  | _ => none }
def multiBackRow : OpenClaim := { program := "ytkfkdakghjlenaadoor", sum := "0427c88b1fe3051bac810f9aadf1db0bacb4eaecc0e94d728fb6e87178e523b2", func := "indenture/indenturelaw27.MultiBack", spec := "multiBack", inPlace := ["sync/atomic.LoadUint32", "(*internal/sync.Mutex).Lock", "internal/race.Disable", "sync/atomic.CompareAndSwapInt32", "internal/race.Enable", "internal/race.Acquire", "(*internal/sync.Mutex).lockSlow", "internal/sync.runtime_canSpin", "internal/sync.runtime_doSpin", "internal/sync.throw", "internal/sync.runtime_nanotime", "internal/sync.runtime_SemacquireMutex", "sync/atomic.AddInt32", "(*internal/sync.Mutex).Unlock", "internal/race.ReleaseMerge", "(*internal/sync.Mutex).unlockSlow", "internal/sync.fatal", "internal/sync.runtime_Semrelease", "sync/atomic.StoreUint32"], unfollowed := true, recurses := true, named := ["indenture/sha.rounds"], apart := false, laid := [("indenture/sha.rounds", laid_indenture_sha_rounds)] }
def MultiBackSaid : Prop := multiBackRow.holds Tryd.pinned (OpenSpec.ofChange multiBackSpec)

/-- ITS FALSE NEIGHBOUR: 'it returns false'. Refute it at one input. -/
def multiBackWrong : ChangeSpec := { name := "multiBack", fn := fun _ => fun
  | [d1, d2, d3] => { results := [.lit (.bool false)], args := [d1, d2, d3] }
  | _ => none }
def MultiBackWrongFalsely : Prop := multiBackRow.holds Tryd.pinned (OpenSpec.ofChange multiBackWrong)

/- THE SECOND FORM. 'bulk': how many values and letters a reading holds, each counted each time it is reached (what is shared counts as often as it is met; a slice's spare places count too). A statement '..UptoSaid' is the law's where the arguments, and the package variables that the reading takes, are together of bulk at most 1048576: NARROWER than '..Said'. Prove '..Said' where nothing that the law and all that it calls make is longer than what came in: it says more and counts as full. Else prove '..UptoSaid'. A law counts once. -/
mutual
def uptoBulk {H : Type} : DataW H → Nat
  | .lit (.string bytes) => bytes.length + 1
  | .lit _ => 1
  | .nil => 1
  | .ptr d => uptoBulk d + 1
  | .slice elems spare => uptoBulkAll elems + uptoBulkAll spare + 1
  | .agg parts => uptoBulkAll parts + 1
  | .iface _ d => uptoBulk d + 1
  | .map entries => uptoBulkEntries entries + 1
  | .held _ => 1
def uptoBulkAll {H : Type} : List (DataW H) → Nat
  | [] => 0
  | d :: r => uptoBulk d + uptoBulkAll r
def uptoBulkEntries {H : Type} : List (Lit × DataW H) → Nat
  | [] => 0
  | x :: r => uptoBulkEntry x + uptoBulkEntries r
def uptoBulkEntry {H : Type} : Lit × DataW H → Nat
  | (.string bytes, d) => bytes.length + uptoBulk d + 1
  | (_, d) => uptoBulk d + 1
 end
def uptoSmall : (H : Type) → List (DataW H) → Bool := fun _ ds => decide (uptoBulkAll ds ≤ 1048576)
def OpenSpec.upto (s : _root_.Go.ChangeSpec) : _root_.Go.OpenSpec := { _root_.Go.OpenSpec.ofChange s with cond := some uptoSmall }

/-- 'indenturelaw27.MultiProves', WHERE WHAT IT READS IS OF BULK AT MOST 1048576: true; the input reads as it did. -/
def multiProvesUptoRow : OpenClaim := { program := "ytkfkdakghjlenaadoor", sum := "0427c88b1fe3051bac810f9aadf1db0bacb4eaecc0e94d728fb6e87178e523b2", func := "indenture/indenturelaw27.MultiProves", spec := "multiProves", unfollowed := true, recurses := true, named := ["indenture/sha.rounds"], apart := false, laid := [("indenture/sha.rounds", laid_indenture_sha_rounds)], narrowed := true }
def MultiProvesUptoSaid : Prop := multiProvesUptoRow.holds Tryd.pinned (OpenSpec.upto multiProvesSpec)

/-- 'indenturelaw12.MemberNone', WHERE WHAT IT READS IS OF BULK AT MOST 1048576: true; the input reads as it did. -/
def memberNoneUptoRow : OpenClaim := { program := "ytkfkdakghjlenaadoor", sum := "0427c88b1fe3051bac810f9aadf1db0bacb4eaecc0e94d728fb6e87178e523b2", func := "indenture/indenturelaw12.MemberNone", spec := "memberNone", inPlace := ["sync/atomic.LoadUint32", "(*internal/sync.Mutex).Lock", "internal/race.Disable", "sync/atomic.CompareAndSwapInt32", "internal/race.Enable", "internal/race.Acquire", "(*internal/sync.Mutex).lockSlow", "internal/sync.runtime_canSpin", "internal/sync.runtime_doSpin", "internal/sync.throw", "internal/sync.runtime_nanotime", "internal/sync.runtime_SemacquireMutex", "sync/atomic.AddInt32", "(*internal/sync.Mutex).Unlock", "internal/race.ReleaseMerge", "(*internal/sync.Mutex).unlockSlow", "internal/sync.fatal", "internal/sync.runtime_Semrelease", "sync/atomic.StoreUint32"], unfollowed := true, recurses := true, named := ["indenture/sha.rounds"], apart := false, laid := [("indenture/sha.rounds", laid_indenture_sha_rounds)], narrowed := true }
def MemberNoneUptoSaid : Prop := memberNoneUptoRow.holds Tryd.pinned (OpenSpec.upto memberNoneSpec)

/-- 'indenturelaw12.MemberChecks', WHERE WHAT IT READS IS OF BULK AT MOST 1048576: true; the input reads as it did. -/
def memberChecksUptoRow : OpenClaim := { program := "ytkfkdakghjlenaadoor", sum := "0427c88b1fe3051bac810f9aadf1db0bacb4eaecc0e94d728fb6e87178e523b2", func := "indenture/indenturelaw12.MemberChecks", spec := "memberChecks", inPlace := ["sync/atomic.LoadUint32", "(*internal/sync.Mutex).Lock", "internal/race.Disable", "sync/atomic.CompareAndSwapInt32", "internal/race.Enable", "internal/race.Acquire", "(*internal/sync.Mutex).lockSlow", "internal/sync.runtime_canSpin", "internal/sync.runtime_doSpin", "internal/sync.throw", "internal/sync.runtime_nanotime", "internal/sync.runtime_SemacquireMutex", "sync/atomic.AddInt32", "(*internal/sync.Mutex).Unlock", "internal/race.ReleaseMerge", "(*internal/sync.Mutex).unlockSlow", "internal/sync.fatal", "internal/sync.runtime_Semrelease", "sync/atomic.StoreUint32"], unfollowed := true, recurses := true, named := ["indenture/sha.rounds"], apart := false, laid := [("indenture/sha.rounds", laid_indenture_sha_rounds)], narrowed := true }
def MemberChecksUptoSaid : Prop := memberChecksUptoRow.holds Tryd.pinned (OpenSpec.upto memberChecksSpec)

/-- 'indenturelaw11.TrieBits', WHERE WHAT IT READS IS OF BULK AT MOST 1048576: true; the input reads as it did. -/
def trieBitsUptoRow : OpenClaim := { program := "ytkfkdakghjlenaadoor", sum := "0427c88b1fe3051bac810f9aadf1db0bacb4eaecc0e94d728fb6e87178e523b2", func := "indenture/indenturelaw11.TrieBits", spec := "trieBits", inPlace := ["sync/atomic.LoadUint32", "(*internal/sync.Mutex).Lock", "internal/race.Disable", "sync/atomic.CompareAndSwapInt32", "internal/race.Enable", "internal/race.Acquire", "(*internal/sync.Mutex).lockSlow", "internal/sync.runtime_canSpin", "internal/sync.runtime_doSpin", "internal/sync.throw", "internal/sync.runtime_nanotime", "internal/sync.runtime_SemacquireMutex", "sync/atomic.AddInt32", "(*internal/sync.Mutex).Unlock", "internal/race.ReleaseMerge", "(*internal/sync.Mutex).unlockSlow", "internal/sync.fatal", "internal/sync.runtime_Semrelease", "sync/atomic.StoreUint32"], unfollowed := true, recurses := true, named := ["indenture/sha.rounds"], apart := false, laid := [("indenture/sha.rounds", laid_indenture_sha_rounds)], narrowed := true }
def TrieBitsUptoSaid : Prop := trieBitsUptoRow.holds Tryd.pinned (OpenSpec.upto trieBitsSpec)

/-- 'indenturelaw11.TrieGets', WHERE WHAT IT READS IS OF BULK AT MOST 1048576: true; the input reads as it did. -/
def trieGetsUptoRow : OpenClaim := { program := "ytkfkdakghjlenaadoor", sum := "0427c88b1fe3051bac810f9aadf1db0bacb4eaecc0e94d728fb6e87178e523b2", func := "indenture/indenturelaw11.TrieGets", spec := "trieGets", inPlace := ["sync/atomic.LoadUint32", "(*internal/sync.Mutex).Lock", "internal/race.Disable", "sync/atomic.CompareAndSwapInt32", "internal/race.Enable", "internal/race.Acquire", "(*internal/sync.Mutex).lockSlow", "internal/sync.runtime_canSpin", "internal/sync.runtime_doSpin", "internal/sync.throw", "internal/sync.runtime_nanotime", "internal/sync.runtime_SemacquireMutex", "sync/atomic.AddInt32", "(*internal/sync.Mutex).Unlock", "internal/race.ReleaseMerge", "(*internal/sync.Mutex).unlockSlow", "internal/sync.fatal", "internal/sync.runtime_Semrelease", "sync/atomic.StoreUint32"], unfollowed := true, recurses := true, named := ["indenture/sha.rounds"], apart := false, laid := [("indenture/sha.rounds", laid_indenture_sha_rounds)], narrowed := true }
def TrieGetsUptoSaid : Prop := trieGetsUptoRow.holds Tryd.pinned (OpenSpec.upto trieGetsSpec)

/-- 'indenturelaw11.TrieActs', WHERE WHAT IT READS IS OF BULK AT MOST 1048576: true; the input reads as it did. -/
def trieActsUptoRow : OpenClaim := { program := "ytkfkdakghjlenaadoor", sum := "0427c88b1fe3051bac810f9aadf1db0bacb4eaecc0e94d728fb6e87178e523b2", func := "indenture/indenturelaw11.TrieActs", spec := "trieActs", inPlace := ["sync/atomic.LoadUint32", "(*internal/sync.Mutex).Lock", "internal/race.Disable", "sync/atomic.CompareAndSwapInt32", "internal/race.Enable", "internal/race.Acquire", "(*internal/sync.Mutex).lockSlow", "internal/sync.runtime_canSpin", "internal/sync.runtime_doSpin", "internal/sync.throw", "internal/sync.runtime_nanotime", "internal/sync.runtime_SemacquireMutex", "sync/atomic.AddInt32", "(*internal/sync.Mutex).Unlock", "internal/race.ReleaseMerge", "(*internal/sync.Mutex).unlockSlow", "internal/sync.fatal", "internal/sync.runtime_Semrelease", "sync/atomic.StoreUint32"], unfollowed := true, recurses := true, named := ["indenture/sha.rounds"], apart := false, laid := [("indenture/sha.rounds", laid_indenture_sha_rounds)], narrowed := true }
def TrieActsUptoSaid : Prop := trieActsUptoRow.holds Tryd.pinned (OpenSpec.upto trieActsSpec)

/-- 'indenturelaw11.TrieOrder', WHERE WHAT IT READS IS OF BULK AT MOST 1048576: true; the input reads as it did. -/
def trieOrderUptoRow : OpenClaim := { program := "ytkfkdakghjlenaadoor", sum := "0427c88b1fe3051bac810f9aadf1db0bacb4eaecc0e94d728fb6e87178e523b2", func := "indenture/indenturelaw11.TrieOrder", spec := "trieOrder", inPlace := ["sync/atomic.LoadUint32", "(*internal/sync.Mutex).Lock", "internal/race.Disable", "sync/atomic.CompareAndSwapInt32", "internal/race.Enable", "internal/race.Acquire", "(*internal/sync.Mutex).lockSlow", "internal/sync.runtime_canSpin", "internal/sync.runtime_doSpin", "internal/sync.throw", "internal/sync.runtime_nanotime", "internal/sync.runtime_SemacquireMutex", "sync/atomic.AddInt32", "(*internal/sync.Mutex).Unlock", "internal/race.ReleaseMerge", "(*internal/sync.Mutex).unlockSlow", "internal/sync.fatal", "internal/sync.runtime_Semrelease", "sync/atomic.StoreUint32"], unfollowed := true, recurses := true, named := ["indenture/sha.rounds"], apart := false, laid := [("indenture/sha.rounds", laid_indenture_sha_rounds)], narrowed := true }
def TrieOrderUptoSaid : Prop := trieOrderUptoRow.holds Tryd.pinned (OpenSpec.upto trieOrderSpec)

/-- 'indenturelaw11.TrieNone', WHERE WHAT IT READS IS OF BULK AT MOST 1048576: true; the input reads as it did. -/
def trieNoneUptoRow : OpenClaim := { program := "ytkfkdakghjlenaadoor", sum := "0427c88b1fe3051bac810f9aadf1db0bacb4eaecc0e94d728fb6e87178e523b2", func := "indenture/indenturelaw11.TrieNone", spec := "trieNone", inPlace := ["sync/atomic.LoadUint32", "(*internal/sync.Mutex).Lock", "internal/race.Disable", "sync/atomic.CompareAndSwapInt32", "internal/race.Enable", "internal/race.Acquire", "(*internal/sync.Mutex).lockSlow", "internal/sync.runtime_canSpin", "internal/sync.runtime_doSpin", "internal/sync.throw", "internal/sync.runtime_nanotime", "internal/sync.runtime_SemacquireMutex", "sync/atomic.AddInt32", "(*internal/sync.Mutex).Unlock", "internal/race.ReleaseMerge", "(*internal/sync.Mutex).unlockSlow", "internal/sync.fatal", "internal/sync.runtime_Semrelease", "sync/atomic.StoreUint32"], unfollowed := true, recurses := true, named := ["indenture/sha.rounds"], apart := false, laid := [("indenture/sha.rounds", laid_indenture_sha_rounds)], narrowed := true }
def TrieNoneUptoSaid : Prop := trieNoneUptoRow.holds Tryd.pinned (OpenSpec.upto trieNoneSpec)

/-- 'indenturelaw11.TrieAlike', WHERE WHAT IT READS IS OF BULK AT MOST 1048576: true; the input reads as it did. -/
def trieAlikeUptoRow : OpenClaim := { program := "ytkfkdakghjlenaadoor", sum := "0427c88b1fe3051bac810f9aadf1db0bacb4eaecc0e94d728fb6e87178e523b2", func := "indenture/indenturelaw11.TrieAlike", spec := "trieAlike", inPlace := ["sync/atomic.LoadUint32", "(*internal/sync.Mutex).Lock", "internal/race.Disable", "sync/atomic.CompareAndSwapInt32", "internal/race.Enable", "internal/race.Acquire", "(*internal/sync.Mutex).lockSlow", "internal/sync.runtime_canSpin", "internal/sync.runtime_doSpin", "internal/sync.throw", "internal/sync.runtime_nanotime", "internal/sync.runtime_SemacquireMutex", "sync/atomic.AddInt32", "(*internal/sync.Mutex).Unlock", "internal/race.ReleaseMerge", "(*internal/sync.Mutex).unlockSlow", "internal/sync.fatal", "internal/sync.runtime_Semrelease", "sync/atomic.StoreUint32"], unfollowed := true, recurses := true, named := ["indenture/sha.rounds"], apart := false, laid := [("indenture/sha.rounds", laid_indenture_sha_rounds)], narrowed := true }
def TrieAlikeUptoSaid : Prop := trieAlikeUptoRow.holds Tryd.pinned (OpenSpec.upto trieAlikeSpec)

/-- 'indenturelaw12.MemberProves', WHERE WHAT IT READS IS OF BULK AT MOST 1048576: true; the input reads as it did. -/
def memberProvesUptoRow : OpenClaim := { program := "ytkfkdakghjlenaadoor", sum := "0427c88b1fe3051bac810f9aadf1db0bacb4eaecc0e94d728fb6e87178e523b2", func := "indenture/indenturelaw12.MemberProves", spec := "memberProves", inPlace := ["sync/atomic.LoadUint32", "(*internal/sync.Mutex).Lock", "internal/race.Disable", "sync/atomic.CompareAndSwapInt32", "internal/race.Enable", "internal/race.Acquire", "(*internal/sync.Mutex).lockSlow", "internal/sync.runtime_canSpin", "internal/sync.runtime_doSpin", "internal/sync.throw", "internal/sync.runtime_nanotime", "internal/sync.runtime_SemacquireMutex", "sync/atomic.AddInt32", "(*internal/sync.Mutex).Unlock", "internal/race.ReleaseMerge", "(*internal/sync.Mutex).unlockSlow", "internal/sync.fatal", "internal/sync.runtime_Semrelease", "sync/atomic.StoreUint32"], unfollowed := true, recurses := true, named := ["indenture/sha.rounds"], apart := false, laid := [("indenture/sha.rounds", laid_indenture_sha_rounds)], narrowed := true }
def MemberProvesUptoSaid : Prop := memberProvesUptoRow.holds Tryd.pinned (OpenSpec.upto memberProvesSpec)

/-- 'indenturelaw12.MemberHolds', WHERE WHAT IT READS IS OF BULK AT MOST 1048576: true; the input reads as it did. -/
def memberHoldsUptoRow : OpenClaim := { program := "ytkfkdakghjlenaadoor", sum := "0427c88b1fe3051bac810f9aadf1db0bacb4eaecc0e94d728fb6e87178e523b2", func := "indenture/indenturelaw12.MemberHolds", spec := "memberHolds", inPlace := ["sync/atomic.LoadUint32", "(*internal/sync.Mutex).Lock", "internal/race.Disable", "sync/atomic.CompareAndSwapInt32", "internal/race.Enable", "internal/race.Acquire", "(*internal/sync.Mutex).lockSlow", "internal/sync.runtime_canSpin", "internal/sync.runtime_doSpin", "internal/sync.throw", "internal/sync.runtime_nanotime", "internal/sync.runtime_SemacquireMutex", "sync/atomic.AddInt32", "(*internal/sync.Mutex).Unlock", "internal/race.ReleaseMerge", "(*internal/sync.Mutex).unlockSlow", "internal/sync.fatal", "internal/sync.runtime_Semrelease", "sync/atomic.StoreUint32"], unfollowed := true, recurses := true, named := ["indenture/sha.rounds"], apart := false, laid := [("indenture/sha.rounds", laid_indenture_sha_rounds)], narrowed := true }
def MemberHoldsUptoSaid : Prop := memberHoldsUptoRow.holds Tryd.pinned (OpenSpec.upto memberHoldsSpec)

/-- 'indenturelaw12.MemberOthers', WHERE WHAT IT READS IS OF BULK AT MOST 1048576: true; the input reads as it did. -/
def memberOthersUptoRow : OpenClaim := { program := "ytkfkdakghjlenaadoor", sum := "0427c88b1fe3051bac810f9aadf1db0bacb4eaecc0e94d728fb6e87178e523b2", func := "indenture/indenturelaw12.MemberOthers", spec := "memberOthers", inPlace := ["sync/atomic.LoadUint32", "(*internal/sync.Mutex).Lock", "internal/race.Disable", "sync/atomic.CompareAndSwapInt32", "internal/race.Enable", "internal/race.Acquire", "(*internal/sync.Mutex).lockSlow", "internal/sync.runtime_canSpin", "internal/sync.runtime_doSpin", "internal/sync.throw", "internal/sync.runtime_nanotime", "internal/sync.runtime_SemacquireMutex", "sync/atomic.AddInt32", "(*internal/sync.Mutex).Unlock", "internal/race.ReleaseMerge", "(*internal/sync.Mutex).unlockSlow", "internal/sync.fatal", "internal/sync.runtime_Semrelease", "sync/atomic.StoreUint32"], unfollowed := true, recurses := true, named := ["indenture/sha.rounds"], apart := false, laid := [("indenture/sha.rounds", laid_indenture_sha_rounds)], narrowed := true }
def MemberOthersUptoSaid : Prop := memberOthersUptoRow.holds Tryd.pinned (OpenSpec.upto memberOthersSpec)

/-- 'indenturelaw12.MemberChanges', WHERE WHAT IT READS IS OF BULK AT MOST 1048576: true; the input reads as it did. -/
def memberChangesUptoRow : OpenClaim := { program := "ytkfkdakghjlenaadoor", sum := "0427c88b1fe3051bac810f9aadf1db0bacb4eaecc0e94d728fb6e87178e523b2", func := "indenture/indenturelaw12.MemberChanges", spec := "memberChanges", inPlace := ["sync/atomic.LoadUint32", "(*internal/sync.Mutex).Lock", "internal/race.Disable", "sync/atomic.CompareAndSwapInt32", "internal/race.Enable", "internal/race.Acquire", "(*internal/sync.Mutex).lockSlow", "internal/sync.runtime_canSpin", "internal/sync.runtime_doSpin", "internal/sync.throw", "internal/sync.runtime_nanotime", "internal/sync.runtime_SemacquireMutex", "sync/atomic.AddInt32", "(*internal/sync.Mutex).Unlock", "internal/race.ReleaseMerge", "(*internal/sync.Mutex).unlockSlow", "internal/sync.fatal", "internal/sync.runtime_Semrelease", "sync/atomic.StoreUint32"], unfollowed := true, recurses := true, named := ["indenture/sha.rounds"], apart := false, laid := [("indenture/sha.rounds", laid_indenture_sha_rounds)], narrowed := true }
def MemberChangesUptoSaid : Prop := memberChangesUptoRow.holds Tryd.pinned (OpenSpec.upto memberChangesSpec)

/-- 'indenturelaw27.MultiChecks', WHERE WHAT IT READS IS OF BULK AT MOST 1048576: true; the input reads as it did. -/
def multiChecksUptoRow : OpenClaim := { program := "ytkfkdakghjlenaadoor", sum := "0427c88b1fe3051bac810f9aadf1db0bacb4eaecc0e94d728fb6e87178e523b2", func := "indenture/indenturelaw27.MultiChecks", spec := "multiChecks", unfollowed := true, recurses := true, named := ["indenture/sha.rounds"], apart := false, laid := [("indenture/sha.rounds", laid_indenture_sha_rounds)], narrowed := true }
def MultiChecksUptoSaid : Prop := multiChecksUptoRow.holds Tryd.pinned (OpenSpec.upto multiChecksSpec)

/-- 'indenturelaw27.MultiOthers', WHERE WHAT IT READS IS OF BULK AT MOST 1048576: true; the input reads as it did. -/
def multiOthersUptoRow : OpenClaim := { program := "ytkfkdakghjlenaadoor", sum := "0427c88b1fe3051bac810f9aadf1db0bacb4eaecc0e94d728fb6e87178e523b2", func := "indenture/indenturelaw27.MultiOthers", spec := "multiOthers", inPlace := ["sync/atomic.LoadUint32", "(*internal/sync.Mutex).Lock", "internal/race.Disable", "sync/atomic.CompareAndSwapInt32", "internal/race.Enable", "internal/race.Acquire", "(*internal/sync.Mutex).lockSlow", "internal/sync.runtime_canSpin", "internal/sync.runtime_doSpin", "internal/sync.throw", "internal/sync.runtime_nanotime", "internal/sync.runtime_SemacquireMutex", "sync/atomic.AddInt32", "(*internal/sync.Mutex).Unlock", "internal/race.ReleaseMerge", "(*internal/sync.Mutex).unlockSlow", "internal/sync.fatal", "internal/sync.runtime_Semrelease", "sync/atomic.StoreUint32"], unfollowed := true, recurses := true, named := ["indenture/sha.rounds"], apart := false, laid := [("indenture/sha.rounds", laid_indenture_sha_rounds)], narrowed := true }
def MultiOthersUptoSaid : Prop := multiOthersUptoRow.holds Tryd.pinned (OpenSpec.upto multiOthersSpec)

/-- 'indenturelaw27.MultiHolds', WHERE WHAT IT READS IS OF BULK AT MOST 1048576: true; the input reads as it did. -/
def multiHoldsUptoRow : OpenClaim := { program := "ytkfkdakghjlenaadoor", sum := "0427c88b1fe3051bac810f9aadf1db0bacb4eaecc0e94d728fb6e87178e523b2", func := "indenture/indenturelaw27.MultiHolds", spec := "multiHolds", inPlace := ["sync/atomic.LoadUint32", "(*internal/sync.Mutex).Lock", "internal/race.Disable", "sync/atomic.CompareAndSwapInt32", "internal/race.Enable", "internal/race.Acquire", "(*internal/sync.Mutex).lockSlow", "internal/sync.runtime_canSpin", "internal/sync.runtime_doSpin", "internal/sync.throw", "internal/sync.runtime_nanotime", "internal/sync.runtime_SemacquireMutex", "sync/atomic.AddInt32", "(*internal/sync.Mutex).Unlock", "internal/race.ReleaseMerge", "(*internal/sync.Mutex).unlockSlow", "internal/sync.fatal", "internal/sync.runtime_Semrelease", "sync/atomic.StoreUint32"], unfollowed := true, recurses := true, named := ["indenture/sha.rounds"], apart := false, laid := [("indenture/sha.rounds", laid_indenture_sha_rounds)], narrowed := true }
def MultiHoldsUptoSaid : Prop := multiHoldsUptoRow.holds Tryd.pinned (OpenSpec.upto multiHoldsSpec)

/-- 'indenturelaw27.MultiBack', WHERE WHAT IT READS IS OF BULK AT MOST 1048576: true; the input reads as it did. -/
def multiBackUptoRow : OpenClaim := { program := "ytkfkdakghjlenaadoor", sum := "0427c88b1fe3051bac810f9aadf1db0bacb4eaecc0e94d728fb6e87178e523b2", func := "indenture/indenturelaw27.MultiBack", spec := "multiBack", inPlace := ["sync/atomic.LoadUint32", "(*internal/sync.Mutex).Lock", "internal/race.Disable", "sync/atomic.CompareAndSwapInt32", "internal/race.Enable", "internal/race.Acquire", "(*internal/sync.Mutex).lockSlow", "internal/sync.runtime_canSpin", "internal/sync.runtime_doSpin", "internal/sync.throw", "internal/sync.runtime_nanotime", "internal/sync.runtime_SemacquireMutex", "sync/atomic.AddInt32", "(*internal/sync.Mutex).Unlock", "internal/race.ReleaseMerge", "(*internal/sync.Mutex).unlockSlow", "internal/sync.fatal", "internal/sync.runtime_Semrelease", "sync/atomic.StoreUint32"], unfollowed := true, recurses := true, named := ["indenture/sha.rounds"], apart := false, laid := [("indenture/sha.rounds", laid_indenture_sha_rounds)], narrowed := true }
def MultiBackUptoSaid : Prop := multiBackUptoRow.holds Tryd.pinned (OpenSpec.upto multiBackSpec)

end Rows
end Go.Proofs.YtkfkdakghjlenaaDoor
