/-
 Own text, printed by a program of mine (wip/gx/rx/works.py): the states between the pieces of the run of works; the table and the oracles are right.
-/
import Derived.Test.YtdencdfdikmgbaaGreatDoorWm2
import Derived.Test.YtdencdfdikmgbaaGreatDoorRxTab
import Derived.Test.YtdencdfdikmgbaaGreatDoorOnceZ
import Derived.Test.YtdencdfdikmgbaaGreatDoorZS
import Derived.Test.YtdencdfdikmgbaaGreatDoorTab
set_option linter.unusedSimpArgs false
set_option linter.unusedVariables false
set_option maxRecDepth 100000
namespace Go.Proofs.YtdencdfdikmgbaaGreatDoor
open Go.RowKit Go.Gx Go.Gx.Rx
def bP : Nat → Code → Code
 | 0, .seq a _ => a
 | n + 1, .seq _ b => bP n b
 | _, c => c
noncomputable def co : Code := match Tryz.f7.body with
 | some c => c
 | none => .skip
def tb0 : B := .rd [(1, .i .u32 0), (1, .i .u32 274646895), (1, .i .u32 549293790), (1, .i .u32 820201905), (1, .i .u32 1098587580), (1, .i .u32 1361435347), (1, .i .u32 1640403810), (1, .i .u32 1905808397), (1, .i .u32 2197175160), (1, .i .u32 2460548119), (1, .i .u32 2722870694), (1, .i .u32 2987750089), (1, .i .u32 3280807620), (1, .i .u32 3553878443), (1, .i .u32 3811616794), (1, .i .u32 4084100981)]
def tb1 : B := .rd [(1, .i .u32 1116352408), (1, .i .u32 1899447441), (1, .i .u32 3049323471), (1, .i .u32 3921009573), (1, .i .u32 961987163), (1, .i .u32 1508970993), (1, .i .u32 2453635748), (1, .i .u32 2870763221), (1, .i .u32 3624381080), (1, .i .u32 310598401), (1, .i .u32 607225278), (1, .i .u32 1426881987), (1, .i .u32 1925078388), (1, .i .u32 2162078206), (1, .i .u32 2614888103), (1, .i .u32 3248222580), (1, .i .u32 3835390401), (1, .i .u32 4022224774), (1, .i .u32 264347078), (1, .i .u32 604807628), (1, .i .u32 770255983), (1, .i .u32 1249150122), (1, .i .u32 1555081692), (1, .i .u32 1996064986), (1, .i .u32 2554220882), (1, .i .u32 2821834349), (1, .i .u32 2952996808), (1, .i .u32 3210313671), (1, .i .u32 3336571891), (1, .i .u32 3584528711), (1, .i .u32 113926993), (1, .i .u32 338241895), (1, .i .u32 666307205), (1, .i .u32 773529912), (1, .i .u32 1294757372), (1, .i .u32 1396182291), (1, .i .u32 1695183700), (1, .i .u32 1986661051), (1, .i .u32 2177026350), (1, .i .u32 2456956037), (1, .i .u32 2730485921), (1, .i .u32 2820302411), (1, .i .u32 3259730800), (1, .i .u32 3345764771), (1, .i .u32 3516065817), (1, .i .u32 3600352804), (1, .i .u32 4094571909), (1, .i .u32 275423344), (1, .i .u32 430227734), (1, .i .u32 506948616), (1, .i .u32 659060556), (1, .i .u32 883997877), (1, .i .u32 958139571), (1, .i .u32 1322822218), (1, .i .u32 1537002063), (1, .i .u32 1747873779), (1, .i .u32 1955562222), (1, .i .u32 2024104815), (1, .i .u32 2227730452), (1, .i .u32 2361852424), (1, .i .u32 2428436474), (1, .i .u32 2756734187), (1, .i .u32 3204031479), (1, .i .u32 3329325298)]
def tb2 : B := .rd [(1, .i .u8 0), (1, .i .u8 1), (1, .i .u8 28), (1, .i .u8 2), (1, .i .u8 29), (1, .i .u8 14), (1, .i .u8 24), (1, .i .u8 3), (1, .i .u8 30), (1, .i .u8 22), (1, .i .u8 20), (1, .i .u8 15), (1, .i .u8 25), (1, .i .u8 17), (1, .i .u8 4), (1, .i .u8 8), (1, .i .u8 31), (1, .i .u8 27), (1, .i .u8 13), (1, .i .u8 23), (1, .i .u8 21), (1, .i .u8 19), (1, .i .u8 16), (1, .i .u8 7), (1, .i .u8 26), (1, .i .u8 12), (1, .i .u8 18), (1, .i .u8 6), (1, .i .u8 11), (1, .i .u8 5), (1, .i .u8 10), (1, .i .u8 9)]
def tb3 : B := .rd [(1, .i .u8 0), (1, .i .u8 1), (1, .i .u8 56), (1, .i .u8 2), (1, .i .u8 57), (1, .i .u8 49), (1, .i .u8 28), (1, .i .u8 3), (1, .i .u8 61), (1, .i .u8 58), (1, .i .u8 42), (1, .i .u8 50), (1, .i .u8 38), (1, .i .u8 29), (1, .i .u8 17), (1, .i .u8 4), (1, .i .u8 62), (1, .i .u8 47), (1, .i .u8 59), (1, .i .u8 36), (1, .i .u8 45), (1, .i .u8 43), (1, .i .u8 51), (1, .i .u8 22), (1, .i .u8 53), (1, .i .u8 39), (1, .i .u8 33), (1, .i .u8 30), (1, .i .u8 24), (1, .i .u8 18), (1, .i .u8 12), (1, .i .u8 5), (1, .i .u8 63), (1, .i .u8 55), (1, .i .u8 48), (1, .i .u8 27), (1, .i .u8 60), (1, .i .u8 41), (1, .i .u8 37), (1, .i .u8 16), (1, .i .u8 46), (1, .i .u8 35), (1, .i .u8 44), (1, .i .u8 21), (1, .i .u8 52), (1, .i .u8 32), (1, .i .u8 23), (1, .i .u8 11), (1, .i .u8 54), (1, .i .u8 26), (1, .i .u8 40), (1, .i .u8 15), (1, .i .u8 34), (1, .i .u8 20), (1, .i .u8 31), (1, .i .u8 10), (1, .i .u8 25), (1, .i .u8 14), (1, .i .u8 19), (1, .i .u8 9), (1, .i .u8 13), (1, .i .u8 8), (1, .i .u8 7), (1, .i .u8 6)]
def st0 : St := ⟨[], (.nd (.l1 (.lf tb2)) (some tb1) (.nd .nil (some tb0) (.lf tb3))), 4, none⟩
def st1 : St := ⟨[], (.nd (.l1 (.lf tb2)) (some tb1) (.nd .nil (some tb0) (.lf tb3))), 4, none⟩
def st2 : St := ⟨[(1, .c (.p 6 0))], (.nd (.nn (.l1 (.lf (.cs 145 [(2048, .i .u8 0)]))) (.nd .nil (some tb2) (.lf (.cs 108 [(1, .sl 4 0 64 64), (1, .m 5), (1, .ns), (1, .b false), (1, .i .i64 0), (1, .ns), (1, .i .i64 0)])))) (some tb1) (.nd (.l1 (.lf (.mp 0 []))) (some tb0) (.lf tb3))), 7, none⟩
def st3 : St := ⟨[(1, .c (.p 6 0)), (2, .c (.p 19 0)), (3, .c (.i .i64 0))], (.nd (.nn (.nn (.nn (.l1 (.lf (.cs 200 [(1, .m 15), (1, .ns), (2, .i .i64 0)]))) (.l1 (.lf (.cs 208 [(1, .i .i64 5), (1, .b false), (1, .i .i64 0), (1, .b false), (1, .ns), (1, .np), (1, .i .i64 0), (1, .nm)])))) (.nd (.l1 (.lf (.cs 208 [(1, .i .i64 1), (1, .b false), (1, .i .i64 0), (1, .b false), (1, .ns), (1, .np), (1, .i .i64 0), (1, .nm)]))) (some (.cs 145 [(2048, .i .u8 0)])) .nil)) (.nd (.nn (.l1 (.lf (.cs 114 [(1, .p 17 0)]))) (.l1 (.lf (.cs 208 [(1, .i .i64 7), (1, .b false), (1, .i .i64 0), (1, .b false), (1, .ns), (1, .np), (1, .i .i64 0), (1, .nm)])))) (some tb2) (.nd (.l1 (.lf (.cs 208 [(1, .i .i64 3), (1, .b false), (1, .i .i64 0), (1, .b false), (1, .ns), (1, .np), (1, .i .i64 0), (1, .nm)]))) (some (.cs 108 [(1, .sl 4 0 64 64), (1, .m 5), (1, .ns), (1, .b false), (1, .i .i64 0), (1, .ns), (1, .i .i64 0)])) (.lf (.cs 196 [(1, .p 6 0), (3, .i .i64 0)]))))) (some tb1) (.nd (.nn (.nn (.l1 (.lf (.cs 203 [(1, .np), (1, .b true)]))) (.l1 (.lf (.cs 208 [(1, .i .i64 6), (1, .b false), (1, .i .i64 0), (1, .b false), (1, .ns), (1, .np), (1, .i .i64 0), (1, .nm)])))) (.nd (.l1 (.lf (.cs 208 [(1, .i .i64 2), (1, .b false), (1, .i .i64 0), (1, .b false), (1, .ns), (1, .np), (1, .i .i64 0), (1, .nm)]))) (some (.mp 0 [])) .nil)) (some tb0) (.nd (.nn (.l1 (.lf (.cs 125 [(1, .p 14 0), (1, .p 16 0), (2, .ns), (1, .sl 18 0 1 1), (1, .p 20 0), (1, .p 21 0), (1, .p 22 0), (1, .p 23 0), (1, .p 24 0), (1, .p 25 0), (1, .p 26 0), (1, .p 27 0), (1, .b false), (1, .i .i64 0)]))) (.l1 (.lf (.cs 208 [(1, .i .i64 8), (1, .b false), (1, .i .i64 0), (1, .b false), (1, .ns), (1, .np), (1, .i .i64 0), (1, .nm)])))) (some tb3) (.nn (.l1 (.lf (.cs 208 [(1, .i .i64 4), (1, .b false), (1, .i .i64 0), (1, .b false), (1, .ns), (1, .np), (1, .i .i64 0), (1, .nm)]))) (.lf (.mp 0 [])))))), 28, none⟩
def st4 : St := ⟨[(1, .c (.p 6 0)), (2, .c (.p 19 0)), (3, .c (.i .i64 0)), (4, .c (.i .i64 0)), (5, .c (.i .i64 0))], (.nd (.nn (.nn (.nn (.l1 (.lf (.cs 200 [(1, .m 15), (1, .ns), (2, .i .i64 0)]))) (.l1 (.lf (.cs 208 [(1, .i .i64 5), (1, .b false), (1, .i .i64 0), (1, .b false), (1, .ns), (1, .np), (1, .i .i64 0), (1, .nm)])))) (.nd (.nn (.l1 (.lf (.mp 0 []))) (.lf (.cs 208 [(1, .i .i64 1), (1, .b true), (1, .i .i64 0), (1, .b true), (1, .ns), (1, .p 35 0), (1, .i .i64 1), (1, .m 36)]))) (some (.cs 145 [(2048, .i .u8 0)])) .nil)) (.nd (.nn (.nn (.l1 (.lf (.mp 1 [(.s [97], .a [(1, .s [97]), (1, .s [49]), (1, .b false)], 0)]))) (.lf (.cs 114 [(1, .p 17 0)]))) (.l1 (.lf (.cs 208 [(1, .i .i64 7), (1, .b false), (1, .i .i64 0), (1, .b false), (1, .ns), (1, .np), (1, .i .i64 0), (1, .nm)])))) (some tb2) (.nd (.l1 (.lf (.cs 208 [(1, .i .i64 3), (1, .b false), (1, .i .i64 0), (1, .b false), (1, .ns), (1, .np), (1, .i .i64 0), (1, .nm)]))) (some (.cs 108 [(1, .sl 4 0 64 64), (1, .m 5), (1, .ns), (1, .b false), (1, .i .i64 0), (1, .ns), (1, .i .i64 0)])) (.lf (.cs 196 [(1, .p 6 0), (3, .i .i64 0)]))))) (some tb1) (.nd (.nn (.nn (.l1 (.lf (.cs 203 [(1, .np), (1, .b true)]))) (.l1 (.lf (.cs 208 [(1, .i .i64 6), (1, .b false), (1, .i .i64 0), (1, .b false), (1, .ns), (1, .np), (1, .i .i64 0), (1, .nm)])))) (.nd (.l1 (.lf (.cs 208 [(1, .i .i64 2), (1, .b false), (1, .i .i64 0), (1, .b false), (1, .ns), (1, .np), (1, .i .i64 0), (1, .nm)]))) (some (.mp 0 [])) .nil)) (some tb0) (.nd (.nn (.nn (.l1 (.lf (.cs 294 [(1, .m 34)]))) (.lf (.cs 125 [(1, .p 14 0), (1, .p 16 0), (2, .ns), (1, .sl 18 0 1 1), (1, .p 20 0), (1, .p 21 0), (1, .p 22 0), (1, .p 23 0), (1, .p 24 0), (1, .p 25 0), (1, .p 26 0), (1, .p 27 0), (1, .b false), (1, .i .i64 0)]))) (.l1 (.lf (.cs 208 [(1, .i .i64 8), (1, .b false), (1, .i .i64 0), (1, .b false), (1, .ns), (1, .np), (1, .i .i64 0), (1, .nm)])))) (some tb3) (.nn (.l1 (.lf (.cs 208 [(1, .i .i64 4), (1, .b false), (1, .i .i64 0), (1, .b false), (1, .ns), (1, .np), (1, .i .i64 0), (1, .nm)]))) (.lf (.mp 0 [])))))), 41, none⟩
def st5 : St := ⟨[(1, .c (.p 6 0)), (3, .c (.i .i64 0)), (4, .c (.i .i64 0)), (5, .c (.i .i64 0)), (6, .c (.p 279 0)), (7, .c (.i .i64 0))], (.nd (.nn (.l1 (.lf (.cs 145 [(1, .i .u8 10), (1, .i .u8 1), (1, .i .u8 0), (1, .i .u8 1), (1, .i .u8 0), (2, .i .u8 1), (1, .i .u8 97), (1, .i .u8 0), (1, .i .u8 1), (1, .i .u8 49), (1, .i .u8 8), (1, .i .u8 71), (1, .i .u8 251), (1, .i .u8 97), (2033, .i .u8 0)]))) (.nd (.l1 (.l1 (.l1 (.l1 (.l1 (.lf (.row 52 3 1 [(1, .s [97]), (1, .s [49]), (1, .b false)]))))))) (some tb2) (.lf (.cs 108 [(1, .sl 4 0 64 64), (1, .m 5), (1, .ns), (1, .b false), (1, .i .i64 0), (1, .ns), (1, .i .i64 0)])))) (some tb1) (.nd (.l1 (.lf (.mp 1 []))) (some tb0) (.nd .nil (some tb3) (.r1 (.l1 (.r1 (.r1 (.r1 (.l1 (.lf (.cs 66 [(1, .i .i64 0), (1, .i .i64 1), (1, .i .i64 0), (1, .b true), (1, .ns), (1, .rs 250 0 1 0), (1, .ns), (1, .i .i64 1), (1, .i .u8 192), (1, .i .u8 95), (1, .i .u8 247), (1, .i .u8 130), (1, .i .u8 190), (1, .i .u8 73), (1, .i .u8 215), (1, .i .u8 126), (1, .i .u8 203), (1, .i .u8 106), (1, .i .u8 118), (1, .i .u8 158), (1, .i .u8 40), (1, .i .u8 119), (1, .i .u8 17), (1, .i .u8 87), (1, .i .u8 237), (1, .i .u8 244), (1, .i .u8 148), (1, .i .u8 195), (1, .i .u8 124), (1, .i .u8 210), (1, .i .u8 176), (1, .i .u8 112), (1, .i .u8 128), (1, .i .u8 87), (1, .i .u8 125), (1, .i .u8 116), (1, .i .u8 228), (1, .i .u8 100), (1, .i .u8 184), (1, .i .u8 135), (1, .i .u8 19), (1, .i .u8 12), (1, .i .u8 156), (1, .i .u8 187), (1, .i .u8 71), (1, .i .u8 232), (1, .i .u8 41), (1, .i .u8 169), (1, .i .u8 49), (1, .i .u8 100), (1, .i .u8 166), (1, .i .u8 132), (1, .i .u8 87), (1, .i .u8 26), (1, .i .u8 91), (1, .i .u8 174), (1, .i .u8 146), (1, .i .u8 215), (1, .i .u8 138), (1, .i .u8 100), (1, .i .u8 53), (1, .i .u8 181), (1, .i .u8 28), (1, .i .u8 44), (1, .i .u8 244), (1, .i .u8 97), (1, .i .u8 94), (1, .i .u8 35), (1, .i .u8 168), (1, .i .u8 51), (1, .i .u8 183), (1, .i .u8 133)]))))))))))), 280, none⟩
def st6 : St := ⟨[(1, .c (.p 6 0)), (3, .c (.i .i64 0)), (4, .c (.i .i64 0)), (5, .c (.i .i64 0)), (6, .c (.p 279 0)), (7, .c (.i .i64 0)), (8, .c (.b true))], (.nd (.nn (.nn (.l1 (.l1 (.r1 (.r1 (.r1 (.l1 (.lf (.mp 0 [])))))))) (.lf (.cs 145 [(1, .i .u8 10), (1, .i .u8 1), (1, .i .u8 0), (1, .i .u8 1), (1, .i .u8 0), (2, .i .u8 1), (1, .i .u8 97), (1, .i .u8 0), (1, .i .u8 1), (1, .i .u8 49), (1, .i .u8 8), (1, .i .u8 71), (1, .i .u8 251), (1, .i .u8 97), (2033, .i .u8 0)]))) (.nd (.l1 (.l1 (.l1 (.l1 (.l1 (.lf (.row 52 3 1 [(1, .s [97]), (1, .s [49]), (1, .b false)]))))))) (some tb2) (.lf (.cs 108 [(1, .sl 4 0 64 64), (1, .m 280), (1, .ns), (1, .b false), (1, .i .i64 0), (1, .ns), (1, .i .i64 0)])))) (some tb1) (.nd .nil (some tb0) (.nd .nil (some tb3) (.r1 (.l1 (.r1 (.r1 (.r1 (.l1 (.lf (.cs 66 [(1, .i .i64 0), (1, .i .i64 1), (1, .i .i64 0), (1, .b true), (1, .ns), (1, .rs 250 0 1 0), (1, .ns), (1, .i .i64 1), (1, .i .u8 192), (1, .i .u8 95), (1, .i .u8 247), (1, .i .u8 130), (1, .i .u8 190), (1, .i .u8 73), (1, .i .u8 215), (1, .i .u8 126), (1, .i .u8 203), (1, .i .u8 106), (1, .i .u8 118), (1, .i .u8 158), (1, .i .u8 40), (1, .i .u8 119), (1, .i .u8 17), (1, .i .u8 87), (1, .i .u8 237), (1, .i .u8 244), (1, .i .u8 148), (1, .i .u8 195), (1, .i .u8 124), (1, .i .u8 210), (1, .i .u8 176), (1, .i .u8 112), (1, .i .u8 128), (1, .i .u8 87), (1, .i .u8 125), (1, .i .u8 116), (1, .i .u8 228), (1, .i .u8 100), (1, .i .u8 184), (1, .i .u8 135), (1, .i .u8 19), (1, .i .u8 12), (1, .i .u8 156), (1, .i .u8 187), (1, .i .u8 71), (1, .i .u8 232), (1, .i .u8 41), (1, .i .u8 169), (1, .i .u8 49), (1, .i .u8 100), (1, .i .u8 166), (1, .i .u8 132), (1, .i .u8 87), (1, .i .u8 26), (1, .i .u8 91), (1, .i .u8 174), (1, .i .u8 146), (1, .i .u8 215), (1, .i .u8 138), (1, .i .u8 100), (1, .i .u8 53), (1, .i .u8 181), (1, .i .u8 28), (1, .i .u8 44), (1, .i .u8 244), (1, .i .u8 97), (1, .i .u8 94), (1, .i .u8 35), (1, .i .u8 168), (1, .i .u8 51), (1, .i .u8 183), (1, .i .u8 133)]))))))))))), 281, none⟩
def st7 : St := ⟨[(3, .c (.i .i64 0)), (4, .c (.i .i64 0)), (5, .c (.i .i64 0)), (6, .c (.p 279 0)), (7, .c (.i .i64 0)), (8, .c (.b true)), (9, .c (.p 297 0)), (10, .c (.i .i64 0))], (.nd (.nn (.nn (.nn (.l1 (.l1 (.r1 (.r1 (.l1 (.lf (.cs 208 [(1, .i .i64 7), (1, .b false), (1, .i .i64 0), (1, .b false), (1, .ns), (1, .np), (1, .i .i64 0), (1, .nm)]))))))) (.nn (.l1 (.l1 (.l1 (.l1 (.lf (.row 114 1 2 [(1, .p 295 0), (1, .p 486 0)])))))) (.nn (.r1 (.r1 (.l1 (.lf (.mp 0 []))))) (.r1 (.r1 (.l1 (.lf (.row 52 3 1 [(1, .s [97]), (1, .s [49]), (1, .b false)])))))))) (.nd (.r1 (.l1 (.r1 (.r1 (.l1 (.lf (.cs 196 [(1, .p 6 0), (1, .i .i64 32), (2, .i .i64 1)]))))))) (some (.cs 145 [(1, .i .u8 10), (1, .i .u8 1), (1, .i .u8 0), (1, .i .u8 1), (1, .i .u8 0), (2, .i .u8 1), (1, .i .u8 97), (1, .i .u8 0), (1, .i .u8 1), (1, .i .u8 49), (1, .i .u8 8), (1, .i .u8 71), (1, .i .u8 251), (1, .i .u8 97), (2033, .i .u8 0)])) (.r1 (.nn (.l1 (.l1 (.l1 (.lf (.row 9 1 1 [(1, .s [97])]))))) (.r1 (.r1 (.l1 (.lf (.cs 208 [(1, .i .i64 3), (1, .b false), (1, .i .i64 0), (1, .b false), (1, .ns), (1, .np), (1, .i .i64 0), (1, .nm)]))))))))) (.nd (.nn (.l1 (.r1 (.r1 (.l1 (.l1 (.lf (.row 25 5 1 [(1, .i .i64 1), (1, .i .i64 0), (1, .b true), (1, .ns), (1, .rs 312 0 1 0)]))))))) (.nn (.l1 (.r1 (.r1 (.l1 (.lf (.cs 208 [(1, .i .i64 1), (1, .b false), (1, .i .i64 0), (1, .b false), (1, .ns), (1, .np), (1, .i .i64 0), (1, .nm)])))))) (.l1 (.l1 (.l1 (.lf (.row 52 3 1 [(1, .s [97]), (1, .s [49]), (1, .b false)]))))))) (some tb2) (.nd (.r1 (.l1 (.nn (.r1 (.l1 (.lf (.cs 200 [(1, .m 293), (1, .rs 460 0 1 0), (1, .i .i64 1), (1, .i .i64 0)])))) (.l1 (.l1 (.lf (.cs 203 [(1, .p 485 0), (1, .b true)]))))))) (some (.cs 108 [(1, .sl 4 0 64 64), (1, .m 280), (1, .ns), (1, .b false), (1, .i .i64 0), (1, .ns), (1, .i .i64 0)])) (.r1 (.l1 (.r1 (.r1 (.l1 (.lf (.cs 208 [(1, .i .i64 5), (1, .b false), (1, .i .i64 0), (1, .b false), (1, .ns), (1, .np), (1, .i .i64 0), (1, .nm)])))))))))) (some tb1) (.nd (.nn (.nn (.l1 (.l1 (.r1 (.r1 (.l1 (.lf (.cs 208 [(1, .i .i64 8), (1, .b false), (1, .i .i64 0), (1, .b false), (1, .ns), (1, .np), (1, .i .i64 0), (1, .nm)]))))))) (.r1 (.l1 (.r1 (.r1 (.l1 (.lf (.cs 125 [(1, .p 292 0), (1, .p 294 0), (1, .rs 402 0 1 0), (1, .rs 455 0 1 0), (1, .rs 488 0 2 0), (1, .p 298 0), (1, .p 299 0), (1, .p 300 0), (1, .p 301 0), (1, .p 302 0), (1, .p 303 0), (1, .p 304 0), (1, .p 305 0), (1, .b false), (1, .i .i64 1)])))))))) (.nn (.r1 (.l1 (.nn (.r1 (.l1 (.lf (.mp 1 [(.s [97], .c (.sl 463 0 1 1), 0)])))) (.l1 (.l1 (.lf (.cs 332 [(1, .i .i64 256), (2, .np), (1, .i .u8 245), (1, .i .u8 252), (1, .i .u8 181), (1, .i .u8 161), (1, .i .u8 227), (1, .i .u8 83), (1, .i .u8 77), (1, .i .u8 230), (1, .i .u8 0), (1, .i .u8 123), (1, .i .u8 108), (1, .i .u8 73), (1, .i .u8 179), (1, .i .u8 165), (1, .i .u8 244), (1, .i .u8 197), (1, .i .u8 69), (1, .i .u8 237), (1, .i .u8 183), (1, .i .u8 192), (1, .i .u8 224), (1, .i .u8 96), (1, .i .u8 138), (1, .i .u8 48), (1, .i .u8 178), (1, .i .u8 14), (1, .i .u8 22), (1, .i .u8 149), (1, .i .u8 219), (1, .i .u8 62), (1, .i .u8 67), (1, .i .u8 178), (1, .i .u8 191), (1, .i .u8 109), (1, .i .u8 156), (1, .i .u8 138), (1, .i .u8 17), (1, .i .u8 38), (1, .i .u8 6), (1, .i .u8 230), (1, .i .u8 208), (1, .i .u8 0), (1, .i .u8 3), (1, .i .u8 113), (1, .i .u8 52), (1, .i .u8 146), (1, .i .u8 170), (1, .i .u8 145), (1, .i .u8 178), (1, .i .u8 169), (1, .i .u8 65), (1, .i .u8 89), (1, .i .u8 165), (1, .i .u8 135), (1, .i .u8 51), (1, .i .u8 102), (1, .i .u8 4), (1, .i .u8 168), (1, .i .u8 221), (1, .i .u8 104), (1, .i .u8 47), (1, .i .u8 3), (1, .i .u8 63), (1, .i .u8 103), (1, .i .i64 1), (1, .i .u32 0), (1, .i .i32 0), (1, .i .u32 0), (32, .i .u8 0)]))))))) (.r1 (.l1 (.r1 (.r1 (.l1 (.lf (.cs 208 [(1, .i .i64 4), (1, .b false), (1, .i .i64 0), (1, .b false), (1, .ns), (1, .np), (1, .i .i64 0), (1, .nm)]))))))))) (some tb0) (.nd (.l1 (.r1 (.l1 (.r1 (.r1 (.l1 (.lf (.cs 208 [(1, .i .i64 2), (1, .b false), (1, .i .i64 0), (1, .b false), (1, .ns), (1, .np), (1, .i .i64 0), (1, .nm)])))))))) (some tb3) (.nn (.nn (.nn (.l1 (.l1 (.l1 (.lf (.row 34 32 1 [(1, .i .u8 192), (1, .i .u8 95), (1, .i .u8 247), (1, .i .u8 130), (1, .i .u8 190), (1, .i .u8 73), (1, .i .u8 215), (1, .i .u8 126), (1, .i .u8 203), (1, .i .u8 106), (1, .i .u8 118), (1, .i .u8 158), (1, .i .u8 40), (1, .i .u8 119), (1, .i .u8 17), (1, .i .u8 87), (1, .i .u8 237), (1, .i .u8 244), (1, .i .u8 148), (1, .i .u8 195), (1, .i .u8 124), (1, .i .u8 210), (1, .i .u8 176), (1, .i .u8 112), (1, .i .u8 128), (1, .i .u8 87), (1, .i .u8 125), (1, .i .u8 116), (1, .i .u8 228), (1, .i .u8 100), (1, .i .u8 184), (1, .i .u8 135)]))))) (.r1 (.r1 (.l1 (.lf (.cs 203 [(1, .np), (1, .b true)])))))) (.r1 (.r1 (.r1 (.l1 (.lf (.cs 66 [(1, .i .i64 0), (1, .i .i64 1), (1, .i .i64 0), (1, .b true), (1, .ns), (1, .rs 250 0 1 0), (1, .ns), (1, .i .i64 1), (1, .i .u8 192), (1, .i .u8 95), (1, .i .u8 247), (1, .i .u8 130), (1, .i .u8 190), (1, .i .u8 73), (1, .i .u8 215), (1, .i .u8 126), (1, .i .u8 203), (1, .i .u8 106), (1, .i .u8 118), (1, .i .u8 158), (1, .i .u8 40), (1, .i .u8 119), (1, .i .u8 17), (1, .i .u8 87), (1, .i .u8 237), (1, .i .u8 244), (1, .i .u8 148), (1, .i .u8 195), (1, .i .u8 124), (1, .i .u8 210), (1, .i .u8 176), (1, .i .u8 112), (1, .i .u8 128), (1, .i .u8 87), (1, .i .u8 125), (1, .i .u8 116), (1, .i .u8 228), (1, .i .u8 100), (1, .i .u8 184), (1, .i .u8 135), (1, .i .u8 19), (1, .i .u8 12), (1, .i .u8 156), (1, .i .u8 187), (1, .i .u8 71), (1, .i .u8 232), (1, .i .u8 41), (1, .i .u8 169), (1, .i .u8 49), (1, .i .u8 100), (1, .i .u8 166), (1, .i .u8 132), (1, .i .u8 87), (1, .i .u8 26), (1, .i .u8 91), (1, .i .u8 174), (1, .i .u8 146), (1, .i .u8 215), (1, .i .u8 138), (1, .i .u8 100), (1, .i .u8 53), (1, .i .u8 181), (1, .i .u8 28), (1, .i .u8 44), (1, .i .u8 244), (1, .i .u8 97), (1, .i .u8 94), (1, .i .u8 35), (1, .i .u8 168), (1, .i .u8 51), (1, .i .u8 183), (1, .i .u8 133)]))))))) (.r1 (.nn (.l1 (.l1 (.l1 (.lf (.cs 283 [(1, .i .i64 1), (1, .s [49]), (1, .b false)]))))) (.r1 (.r1 (.l1 (.lf (.cs 208 [(1, .i .i64 6), (1, .b false), (1, .i .i64 0), (1, .b false), (1, .ns), (1, .np), (1, .i .i64 0), (1, .nm)]))))))))))), 489, none⟩
def st8 : St := ⟨[(3, .c (.i .i64 0)), (4, .c (.i .i64 0)), (5, .c (.i .i64 0)), (6, .c (.p 279 0)), (7, .c (.i .i64 0)), (8, .c (.b true)), (9, .c (.p 297 0)), (10, .c (.i .i64 0)), (11, .c (.s [49])), (12, .c (.i .i64 0))], (.nd (.nn (.nn (.nn (.l1 (.l1 (.r1 (.r1 (.l1 (.lf (.cs 208 [(1, .i .i64 7), (1, .b false), (1, .i .i64 0), (1, .b false), (1, .ns), (1, .np), (1, .i .i64 0), (1, .nm)]))))))) (.nn (.l1 (.l1 (.l1 (.l1 (.lf (.row 114 1 2 [(1, .p 295 0), (1, .p 486 0)])))))) (.nn (.r1 (.r1 (.l1 (.lf (.mp 0 []))))) (.r1 (.r1 (.l1 (.lf (.row 52 3 1 [(1, .s [97]), (1, .s [49]), (1, .b false)])))))))) (.nd (.r1 (.l1 (.r1 (.r1 (.l1 (.lf (.cs 196 [(1, .p 6 0), (1, .i .i64 32), (2, .i .i64 1)]))))))) (some (.cs 145 [(1, .i .u8 10), (1, .i .u8 1), (1, .i .u8 0), (1, .i .u8 1), (1, .i .u8 0), (2, .i .u8 1), (1, .i .u8 97), (1, .i .u8 0), (1, .i .u8 1), (1, .i .u8 49), (1, .i .u8 8), (1, .i .u8 71), (1, .i .u8 251), (1, .i .u8 97), (2033, .i .u8 0)])) (.r1 (.nn (.l1 (.l1 (.l1 (.lf (.row 9 1 1 [(1, .s [97])]))))) (.r1 (.r1 (.l1 (.lf (.cs 208 [(1, .i .i64 3), (1, .b false), (1, .i .i64 0), (1, .b false), (1, .ns), (1, .np), (1, .i .i64 0), (1, .nm)]))))))))) (.nd (.nn (.l1 (.r1 (.r1 (.l1 (.l1 (.lf (.row 25 5 1 [(1, .i .i64 1), (1, .i .i64 0), (1, .b true), (1, .ns), (1, .rs 312 0 1 0)]))))))) (.nn (.l1 (.r1 (.r1 (.l1 (.lf (.cs 208 [(1, .i .i64 1), (1, .b false), (1, .i .i64 0), (1, .b false), (1, .ns), (1, .np), (1, .i .i64 0), (1, .nm)])))))) (.l1 (.l1 (.l1 (.lf (.row 52 3 1 [(1, .s [97]), (1, .s [49]), (1, .b false)]))))))) (some tb2) (.nd (.r1 (.l1 (.nn (.r1 (.l1 (.lf (.cs 200 [(1, .m 293), (1, .rs 460 0 1 0), (1, .i .i64 1), (1, .i .i64 0)])))) (.l1 (.l1 (.lf (.cs 203 [(1, .p 485 0), (1, .b true)]))))))) (some (.cs 108 [(1, .sl 4 0 64 64), (1, .m 280), (1, .ns), (1, .b false), (1, .i .i64 0), (1, .ns), (1, .i .i64 0)])) (.r1 (.l1 (.r1 (.r1 (.l1 (.lf (.cs 208 [(1, .i .i64 5), (1, .b false), (1, .i .i64 0), (1, .b false), (1, .ns), (1, .np), (1, .i .i64 0), (1, .nm)])))))))))) (some tb1) (.nd (.nn (.nn (.l1 (.l1 (.r1 (.r1 (.l1 (.lf (.cs 208 [(1, .i .i64 8), (1, .b false), (1, .i .i64 0), (1, .b false), (1, .ns), (1, .np), (1, .i .i64 0), (1, .nm)]))))))) (.r1 (.l1 (.r1 (.r1 (.l1 (.lf (.cs 125 [(1, .p 292 0), (1, .p 294 0), (1, .rs 402 0 1 0), (1, .rs 455 0 1 0), (1, .rs 488 0 2 0), (1, .p 298 0), (1, .p 299 0), (1, .p 300 0), (1, .p 301 0), (1, .p 302 0), (1, .p 303 0), (1, .p 304 0), (1, .p 305 0), (1, .b false), (1, .i .i64 1)])))))))) (.nn (.r1 (.l1 (.nn (.r1 (.l1 (.lf (.mp 1 [(.s [97], .c (.sl 463 0 1 1), 0)])))) (.l1 (.l1 (.lf (.cs 332 [(1, .i .i64 256), (2, .np), (1, .i .u8 245), (1, .i .u8 252), (1, .i .u8 181), (1, .i .u8 161), (1, .i .u8 227), (1, .i .u8 83), (1, .i .u8 77), (1, .i .u8 230), (1, .i .u8 0), (1, .i .u8 123), (1, .i .u8 108), (1, .i .u8 73), (1, .i .u8 179), (1, .i .u8 165), (1, .i .u8 244), (1, .i .u8 197), (1, .i .u8 69), (1, .i .u8 237), (1, .i .u8 183), (1, .i .u8 192), (1, .i .u8 224), (1, .i .u8 96), (1, .i .u8 138), (1, .i .u8 48), (1, .i .u8 178), (1, .i .u8 14), (1, .i .u8 22), (1, .i .u8 149), (1, .i .u8 219), (1, .i .u8 62), (1, .i .u8 67), (1, .i .u8 178), (1, .i .u8 191), (1, .i .u8 109), (1, .i .u8 156), (1, .i .u8 138), (1, .i .u8 17), (1, .i .u8 38), (1, .i .u8 6), (1, .i .u8 230), (1, .i .u8 208), (1, .i .u8 0), (1, .i .u8 3), (1, .i .u8 113), (1, .i .u8 52), (1, .i .u8 146), (1, .i .u8 170), (1, .i .u8 145), (1, .i .u8 178), (1, .i .u8 169), (1, .i .u8 65), (1, .i .u8 89), (1, .i .u8 165), (1, .i .u8 135), (1, .i .u8 51), (1, .i .u8 102), (1, .i .u8 4), (1, .i .u8 168), (1, .i .u8 221), (1, .i .u8 104), (1, .i .u8 47), (1, .i .u8 3), (1, .i .u8 63), (1, .i .u8 103), (1, .i .i64 1), (1, .i .u32 0), (1, .i .i32 0), (1, .i .u32 0), (32, .i .u8 0)]))))))) (.r1 (.l1 (.r1 (.r1 (.l1 (.lf (.cs 208 [(1, .i .i64 4), (1, .b false), (1, .i .i64 0), (1, .b false), (1, .ns), (1, .np), (1, .i .i64 0), (1, .nm)]))))))))) (some tb0) (.nd (.l1 (.r1 (.l1 (.r1 (.r1 (.l1 (.lf (.cs 208 [(1, .i .i64 2), (1, .b false), (1, .i .i64 0), (1, .b false), (1, .ns), (1, .np), (1, .i .i64 0), (1, .nm)])))))))) (some tb3) (.nn (.nn (.nn (.l1 (.l1 (.l1 (.lf (.row 34 32 1 [(1, .i .u8 192), (1, .i .u8 95), (1, .i .u8 247), (1, .i .u8 130), (1, .i .u8 190), (1, .i .u8 73), (1, .i .u8 215), (1, .i .u8 126), (1, .i .u8 203), (1, .i .u8 106), (1, .i .u8 118), (1, .i .u8 158), (1, .i .u8 40), (1, .i .u8 119), (1, .i .u8 17), (1, .i .u8 87), (1, .i .u8 237), (1, .i .u8 244), (1, .i .u8 148), (1, .i .u8 195), (1, .i .u8 124), (1, .i .u8 210), (1, .i .u8 176), (1, .i .u8 112), (1, .i .u8 128), (1, .i .u8 87), (1, .i .u8 125), (1, .i .u8 116), (1, .i .u8 228), (1, .i .u8 100), (1, .i .u8 184), (1, .i .u8 135)]))))) (.r1 (.r1 (.l1 (.lf (.cs 203 [(1, .np), (1, .b true)])))))) (.r1 (.r1 (.r1 (.l1 (.lf (.cs 66 [(1, .i .i64 0), (1, .i .i64 1), (1, .i .i64 0), (1, .b true), (1, .ns), (1, .rs 250 0 1 0), (1, .ns), (1, .i .i64 1), (1, .i .u8 192), (1, .i .u8 95), (1, .i .u8 247), (1, .i .u8 130), (1, .i .u8 190), (1, .i .u8 73), (1, .i .u8 215), (1, .i .u8 126), (1, .i .u8 203), (1, .i .u8 106), (1, .i .u8 118), (1, .i .u8 158), (1, .i .u8 40), (1, .i .u8 119), (1, .i .u8 17), (1, .i .u8 87), (1, .i .u8 237), (1, .i .u8 244), (1, .i .u8 148), (1, .i .u8 195), (1, .i .u8 124), (1, .i .u8 210), (1, .i .u8 176), (1, .i .u8 112), (1, .i .u8 128), (1, .i .u8 87), (1, .i .u8 125), (1, .i .u8 116), (1, .i .u8 228), (1, .i .u8 100), (1, .i .u8 184), (1, .i .u8 135), (1, .i .u8 19), (1, .i .u8 12), (1, .i .u8 156), (1, .i .u8 187), (1, .i .u8 71), (1, .i .u8 232), (1, .i .u8 41), (1, .i .u8 169), (1, .i .u8 49), (1, .i .u8 100), (1, .i .u8 166), (1, .i .u8 132), (1, .i .u8 87), (1, .i .u8 26), (1, .i .u8 91), (1, .i .u8 174), (1, .i .u8 146), (1, .i .u8 215), (1, .i .u8 138), (1, .i .u8 100), (1, .i .u8 53), (1, .i .u8 181), (1, .i .u8 28), (1, .i .u8 44), (1, .i .u8 244), (1, .i .u8 97), (1, .i .u8 94), (1, .i .u8 35), (1, .i .u8 168), (1, .i .u8 51), (1, .i .u8 183), (1, .i .u8 133)]))))))) (.r1 (.nn (.l1 (.l1 (.l1 (.lf (.cs 283 [(1, .i .i64 1), (1, .s [49]), (1, .b false)]))))) (.r1 (.r1 (.l1 (.lf (.cs 208 [(1, .i .i64 6), (1, .b false), (1, .i .i64 0), (1, .b false), (1, .ns), (1, .np), (1, .i .i64 0), (1, .nm)]))))))))))), 498, none⟩
def st9 : St := ⟨[(0, .c (.b true))], .nil, 664, none⟩
theorem rM : ∀ q ∈ Tr.list 16 oK, Tryz.prog.funcs[q.1]? = some q.2 ∧ (q.2.name == "runtime.NumGoroutine") = false := by
 have e : Tr.list 16 oK = [(128, Tryz.f128), (64, Tryz.f64), (192, Tryz.f192), (96, Tryz.f96), (224, Tryz.f224), (144, Tryz.f144), (80, Tryz.f80), (208, Tryz.f208), (176, Tryz.f176), (112, Tryz.f112), (240, Tryz.f240), (136, Tryz.f136), (72, Tryz.f72), (200, Tryz.f200), (168, Tryz.f168), (232, Tryz.f232), (24, Tryz.f24), (152, Tryz.f152), (56, Tryz.f56), (184, Tryz.f184), (120, Tryz.f120), (132, Tryz.f132), (68, Tryz.f68), (20, Tryz.f20), (148, Tryz.f148), (52, Tryz.f52), (244, Tryz.f244), (268, Tryz.f268), (140, Tryz.f140), (76, Tryz.f76), (204, Tryz.f204), (172, Tryz.f172), (108, Tryz.f108), (236, Tryz.f236), (28, Tryz.f28), (220, Tryz.f220), (60, Tryz.f60), (188, Tryz.f188), (124, Tryz.f124), (130, Tryz.f130), (66, Tryz.f66), (34, Tryz.f34), (18, Tryz.f18), (146, Tryz.f146), (210, Tryz.f210), (50, Tryz.f50), (178, Tryz.f178), (114, Tryz.f114), (266, Tryz.f266), (138, Tryz.f138), (74, Tryz.f74), (202, Tryz.f202), (170, Tryz.f170), (106, Tryz.f106), (26, Tryz.f26), (154, Tryz.f154), (90, Tryz.f90), (218, Tryz.f218), (58, Tryz.f58), (122, Tryz.f122), (250, Tryz.f250), (134, Tryz.f134), (70, Tryz.f70), (198, Tryz.f198), (166, Tryz.f166), (230, Tryz.f230), (22, Tryz.f22), (150, Tryz.f150), (86, Tryz.f86), (54, Tryz.f54), (118, Tryz.f118), (246, Tryz.f246), (270, Tryz.f270), (142, Tryz.f142), (78, Tryz.f78), (206, Tryz.f206), (174, Tryz.f174), (110, Tryz.f110), (238, Tryz.f238), (62, Tryz.f62), (190, Tryz.f190), (126, Tryz.f126), (129, Tryz.f129), (65, Tryz.f65), (161, Tryz.f161), (97, Tryz.f97), (81, Tryz.f81), (113, Tryz.f113), (241, Tryz.f241), (265, Tryz.f265), (137, Tryz.f137), (73, Tryz.f73), (201, Tryz.f201), (169, Tryz.f169), (25, Tryz.f25), (217, Tryz.f217), (57, Tryz.f57), (121, Tryz.f121), (249, Tryz.f249), (133, Tryz.f133), (69, Tryz.f69), (197, Tryz.f197), (165, Tryz.f165), (21, Tryz.f21), (149, Tryz.f149), (85, Tryz.f85), (213, Tryz.f213), (53, Tryz.f53), (117, Tryz.f117), (245, Tryz.f245), (141, Tryz.f141), (77, Tryz.f77), (205, Tryz.f205), (173, Tryz.f173), (109, Tryz.f109), (93, Tryz.f93), (221, Tryz.f221), (61, Tryz.f61), (189, Tryz.f189), (125, Tryz.f125), (131, Tryz.f131), (67, Tryz.f67), (195, Tryz.f195), (35, Tryz.f35), (19, Tryz.f19), (51, Tryz.f51), (179, Tryz.f179), (11, Tryz.f11), (139, Tryz.f139), (75, Tryz.f75), (203, Tryz.f203), (171, Tryz.f171), (27, Tryz.f27), (219, Tryz.f219), (59, Tryz.f59), (187, Tryz.f187), (7, Tryz.f7), (263, Tryz.f263), (135, Tryz.f135), (231, Tryz.f231), (23, Tryz.f23), (279, Tryz.f279), (151, Tryz.f151), (55, Tryz.f55), (119, Tryz.f119), (143, Tryz.f143), (79, Tryz.f79), (207, Tryz.f207), (175, Tryz.f175), (111, Tryz.f111), (95, Tryz.f95), (63, Tryz.f63), (191, Tryz.f191), (127, Tryz.f127)] := by kernel_rfl
 rw [e]
 intro q hq
 simp only [List.mem_cons, List.not_mem_nil, or_false] at hq
 rcases hq with rfl | rfl | rfl | rfl | rfl | rfl | rfl | rfl | rfl | rfl | rfl | rfl | rfl | rfl | rfl | rfl | rfl | rfl | rfl | rfl | rfl | rfl | rfl | rfl | rfl | rfl | rfl | rfl | rfl | rfl | rfl | rfl | rfl | rfl | rfl | rfl | rfl | rfl | rfl | rfl | rfl | rfl | rfl | rfl | rfl | rfl | rfl | rfl | rfl | rfl | rfl | rfl | rfl | rfl | rfl | rfl | rfl | rfl | rfl | rfl | rfl | rfl | rfl | rfl | rfl | rfl | rfl | rfl | rfl | rfl | rfl | rfl | rfl | rfl | rfl | rfl | rfl | rfl | rfl | rfl | rfl | rfl | rfl | rfl | rfl | rfl | rfl | rfl | rfl | rfl | rfl | rfl | rfl | rfl | rfl | rfl | rfl | rfl | rfl | rfl | rfl | rfl | rfl | rfl | rfl | rfl | rfl | rfl | rfl | rfl | rfl | rfl | rfl | rfl | rfl | rfl | rfl | rfl | rfl | rfl | rfl | rfl | rfl | rfl | rfl | rfl | rfl | rfl | rfl | rfl | rfl | rfl | rfl | rfl | rfl | rfl | rfl | rfl | rfl | rfl | rfl | rfl | rfl | rfl | rfl | rfl | rfl | rfl | rfl | rfl | rfl | rfl | rfl | rfl
 ·exact ⟨Tryz.func128, by kernel_rfl⟩
 ·exact ⟨Tryz.func64, by kernel_rfl⟩
 ·exact ⟨Tryz.func192, by kernel_rfl⟩
 ·exact ⟨Tryz.func96, by kernel_rfl⟩
 ·exact ⟨Tryz.func224, by kernel_rfl⟩
 ·exact ⟨Tryz.func144, by kernel_rfl⟩
 ·exact ⟨Tryz.func80, by kernel_rfl⟩
 ·exact ⟨Tryz.func208, by kernel_rfl⟩
 ·exact ⟨Tryz.func176, by kernel_rfl⟩
 ·exact ⟨Tryz.func112, by kernel_rfl⟩
 ·exact ⟨Tryz.func240, by kernel_rfl⟩
 ·exact ⟨Tryz.func136, by kernel_rfl⟩
 ·exact ⟨Tryz.func72, by kernel_rfl⟩
 ·exact ⟨Tryz.func200, by kernel_rfl⟩
 ·exact ⟨Tryz.func168, by kernel_rfl⟩
 ·exact ⟨Tryz.func232, by kernel_rfl⟩
 ·exact ⟨Tryz.func24, by kernel_rfl⟩
 ·exact ⟨Tryz.func152, by kernel_rfl⟩
 ·exact ⟨Tryz.func56, by kernel_rfl⟩
 ·exact ⟨Tryz.func184, by kernel_rfl⟩
 ·exact ⟨Tryz.func120, by kernel_rfl⟩
 ·exact ⟨Tryz.func132, by kernel_rfl⟩
 ·exact ⟨Tryz.func68, by kernel_rfl⟩
 ·exact ⟨Tryz.func20, by kernel_rfl⟩
 ·exact ⟨Tryz.func148, by kernel_rfl⟩
 ·exact ⟨Tryz.func52, by kernel_rfl⟩
 ·exact ⟨Tryz.func244, by kernel_rfl⟩
 ·exact ⟨Tryz.func268, by kernel_rfl⟩
 ·exact ⟨Tryz.func140, by kernel_rfl⟩
 ·exact ⟨Tryz.func76, by kernel_rfl⟩
 ·exact ⟨Tryz.func204, by kernel_rfl⟩
 ·exact ⟨Tryz.func172, by kernel_rfl⟩
 ·exact ⟨Tryz.func108, by kernel_rfl⟩
 ·exact ⟨Tryz.func236, by kernel_rfl⟩
 ·exact ⟨Tryz.func28, by kernel_rfl⟩
 ·exact ⟨Tryz.func220, by kernel_rfl⟩
 ·exact ⟨Tryz.func60, by kernel_rfl⟩
 ·exact ⟨Tryz.func188, by kernel_rfl⟩
 ·exact ⟨Tryz.func124, by kernel_rfl⟩
 ·exact ⟨Tryz.func130, by kernel_rfl⟩
 ·exact ⟨Tryz.func66, by kernel_rfl⟩
 ·exact ⟨Tryz.func34, by kernel_rfl⟩
 ·exact ⟨Tryz.func18, by kernel_rfl⟩
 ·exact ⟨Tryz.func146, by kernel_rfl⟩
 ·exact ⟨Tryz.func210, by kernel_rfl⟩
 ·exact ⟨Tryz.func50, by kernel_rfl⟩
 ·exact ⟨Tryz.func178, by kernel_rfl⟩
 ·exact ⟨Tryz.func114, by kernel_rfl⟩
 ·exact ⟨Tryz.func266, by kernel_rfl⟩
 ·exact ⟨Tryz.func138, by kernel_rfl⟩
 ·exact ⟨Tryz.func74, by kernel_rfl⟩
 ·exact ⟨Tryz.func202, by kernel_rfl⟩
 ·exact ⟨Tryz.func170, by kernel_rfl⟩
 ·exact ⟨Tryz.func106, by kernel_rfl⟩
 ·exact ⟨Tryz.func26, by kernel_rfl⟩
 ·exact ⟨Tryz.func154, by kernel_rfl⟩
 ·exact ⟨Tryz.func90, by kernel_rfl⟩
 ·exact ⟨Tryz.func218, by kernel_rfl⟩
 ·exact ⟨Tryz.func58, by kernel_rfl⟩
 ·exact ⟨Tryz.func122, by kernel_rfl⟩
 ·exact ⟨Tryz.func250, by kernel_rfl⟩
 ·exact ⟨Tryz.func134, by kernel_rfl⟩
 ·exact ⟨Tryz.func70, by kernel_rfl⟩
 ·exact ⟨Tryz.func198, by kernel_rfl⟩
 ·exact ⟨Tryz.func166, by kernel_rfl⟩
 ·exact ⟨Tryz.func230, by kernel_rfl⟩
 ·exact ⟨Tryz.func22, by kernel_rfl⟩
 ·exact ⟨Tryz.func150, by kernel_rfl⟩
 ·exact ⟨Tryz.func86, by kernel_rfl⟩
 ·exact ⟨Tryz.func54, by kernel_rfl⟩
 ·exact ⟨Tryz.func118, by kernel_rfl⟩
 ·exact ⟨Tryz.func246, by kernel_rfl⟩
 ·exact ⟨Tryz.func270, by kernel_rfl⟩
 ·exact ⟨Tryz.func142, by kernel_rfl⟩
 ·exact ⟨Tryz.func78, by kernel_rfl⟩
 ·exact ⟨Tryz.func206, by kernel_rfl⟩
 ·exact ⟨Tryz.func174, by kernel_rfl⟩
 ·exact ⟨Tryz.func110, by kernel_rfl⟩
 ·exact ⟨Tryz.func238, by kernel_rfl⟩
 ·exact ⟨Tryz.func62, by kernel_rfl⟩
 ·exact ⟨Tryz.func190, by kernel_rfl⟩
 ·exact ⟨Tryz.func126, by kernel_rfl⟩
 ·exact ⟨Tryz.func129, by kernel_rfl⟩
 ·exact ⟨Tryz.func65, by kernel_rfl⟩
 ·exact ⟨Tryz.func161, by kernel_rfl⟩
 ·exact ⟨Tryz.func97, by kernel_rfl⟩
 ·exact ⟨Tryz.func81, by kernel_rfl⟩
 ·exact ⟨Tryz.func113, by kernel_rfl⟩
 ·exact ⟨Tryz.func241, by kernel_rfl⟩
 ·exact ⟨Tryz.func265, by kernel_rfl⟩
 ·exact ⟨Tryz.func137, by kernel_rfl⟩
 ·exact ⟨Tryz.func73, by kernel_rfl⟩
 ·exact ⟨Tryz.func201, by kernel_rfl⟩
 ·exact ⟨Tryz.func169, by kernel_rfl⟩
 ·exact ⟨Tryz.func25, by kernel_rfl⟩
 ·exact ⟨Tryz.func217, by kernel_rfl⟩
 ·exact ⟨Tryz.func57, by kernel_rfl⟩
 ·exact ⟨Tryz.func121, by kernel_rfl⟩
 ·exact ⟨Tryz.func249, by kernel_rfl⟩
 ·exact ⟨Tryz.func133, by kernel_rfl⟩
 ·exact ⟨Tryz.func69, by kernel_rfl⟩
 ·exact ⟨Tryz.func197, by kernel_rfl⟩
 ·exact ⟨Tryz.func165, by kernel_rfl⟩
 ·exact ⟨Tryz.func21, by kernel_rfl⟩
 ·exact ⟨Tryz.func149, by kernel_rfl⟩
 ·exact ⟨Tryz.func85, by kernel_rfl⟩
 ·exact ⟨Tryz.func213, by kernel_rfl⟩
 ·exact ⟨Tryz.func53, by kernel_rfl⟩
 ·exact ⟨Tryz.func117, by kernel_rfl⟩
 ·exact ⟨Tryz.func245, by kernel_rfl⟩
 ·exact ⟨Tryz.func141, by kernel_rfl⟩
 ·exact ⟨Tryz.func77, by kernel_rfl⟩
 ·exact ⟨Tryz.func205, by kernel_rfl⟩
 ·exact ⟨Tryz.func173, by kernel_rfl⟩
 ·exact ⟨Tryz.func109, by kernel_rfl⟩
 ·exact ⟨Tryz.func93, by kernel_rfl⟩
 ·exact ⟨Tryz.func221, by kernel_rfl⟩
 ·exact ⟨Tryz.func61, by kernel_rfl⟩
 ·exact ⟨Tryz.func189, by kernel_rfl⟩
 ·exact ⟨Tryz.func125, by kernel_rfl⟩
 ·exact ⟨Tryz.func131, by kernel_rfl⟩
 ·exact ⟨Tryz.func67, by kernel_rfl⟩
 ·exact ⟨Tryz.func195, by kernel_rfl⟩
 ·exact ⟨Tryz.func35, by kernel_rfl⟩
 ·exact ⟨Tryz.func19, by kernel_rfl⟩
 ·exact ⟨Tryz.func51, by kernel_rfl⟩
 ·exact ⟨Tryz.func179, by kernel_rfl⟩
 ·exact ⟨Tryz.func11, by kernel_rfl⟩
 ·exact ⟨Tryz.func139, by kernel_rfl⟩
 ·exact ⟨Tryz.func75, by kernel_rfl⟩
 ·exact ⟨Tryz.func203, by kernel_rfl⟩
 ·exact ⟨Tryz.func171, by kernel_rfl⟩
 ·exact ⟨Tryz.func27, by kernel_rfl⟩
 ·exact ⟨Tryz.func219, by kernel_rfl⟩
 ·exact ⟨Tryz.func59, by kernel_rfl⟩
 ·exact ⟨Tryz.func187, by kernel_rfl⟩
 ·exact ⟨Tryz.func7, by kernel_rfl⟩
 ·exact ⟨Tryz.func263, by kernel_rfl⟩
 ·exact ⟨Tryz.func135, by kernel_rfl⟩
 ·exact ⟨Tryz.func231, by kernel_rfl⟩
 ·exact ⟨Tryz.func23, by kernel_rfl⟩
 ·exact ⟨Tryz.func279, by kernel_rfl⟩
 ·exact ⟨Tryz.func151, by kernel_rfl⟩
 ·exact ⟨Tryz.func55, by kernel_rfl⟩
 ·exact ⟨Tryz.func119, by kernel_rfl⟩
 ·exact ⟨Tryz.func143, by kernel_rfl⟩
 ·exact ⟨Tryz.func79, by kernel_rfl⟩
 ·exact ⟨Tryz.func207, by kernel_rfl⟩
 ·exact ⟨Tryz.func175, by kernel_rfl⟩
 ·exact ⟨Tryz.func111, by kernel_rfl⟩
 ·exact ⟨Tryz.func95, by kernel_rfl⟩
 ·exact ⟨Tryz.func63, by kernel_rfl⟩
 ·exact ⟨Tryz.func191, by kernel_rfl⟩
 exact ⟨Tryz.func127, by kernel_rfl⟩
theorem tabOK : TabOK Tryz.prog iN := tab_ok (by decide +kernel) (by decide +kernel) (by decide +kernel) (by decide +kernel) (fun f fn h => rM (f, fn) (Tr.get_mem 16 oK f fn h))
end Go.Proofs.YtdencdfdikmgbaaGreatDoor
