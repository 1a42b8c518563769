/- The functions, compiled: by program (wip/gencode.py). -/
import Derived.Test.YtfjnahkcfdcbeaaBk
import Derived.Test.YtfjnahkcfdcbeaaProg
import Derived.KernelRfl
namespace Go.A
open Go.Proofs

/-! 7: tabular/tabularlaw10.AddrRects -/
def c7_0 : ACode := .ops [
    ⟨(some 4), none, .e (.box (.t 0)), []⟩,
    ⟨(some 5), none, .e (.box (.t 1)), []⟩,
    ⟨(some 8), none, .q (.mv (.v (.bool false))), []⟩]
def c7_1 : ACode := .ops [
    ⟨(some 20), none, .q (.ld (some 4) (.t 4)), []⟩,
    ⟨(some 21), none, .q (.ld (some 4) (.t 5)), []⟩,
    ⟨(some 9), none, .e (.alloc [(.int .i64 0), (.int .i64 0), (.int .i64 0), (.int .i64 0)]), []⟩,
    ⟨(some 10), none, .e (.alloc [(.int .i64 0), (.int .i64 0), (.int .i64 0), (.int .i64 0)]), []⟩,
    ⟨none, none, .e (.store 4 (.t 9) (.t 20)), [⟨none, .ld (some 4) (.t 5), 21⟩]⟩,
    ⟨none, none, .e (.store 4 (.t 10) (.t 21)), []⟩]
def c7_2 : ACode := .ops [
    ⟨(some 22), none, .e (.call 11 []), []⟩,
    ⟨(some 23), none, .q (.un .not (.t 22)), []⟩,
    ⟨(some 24), none, .q (.mv (.t 23)), []⟩,
    ⟨(some 25), (some (24, false)), .q (.ld (some 4) (.t 4)), []⟩,
    ⟨(some 27), (some (24, false)), .q (.ld (some 4) (.t 9)), []⟩,
    ⟨(some 26), (some (24, false)), .e (.call 18 [(.t 25)]), [⟨(some (24, false)), .ld (some 4) (.t 9), 27⟩]⟩,
    ⟨(some 28), (some (24, false)), .e (.call 20 [(.t 27)]), []⟩,
    ⟨(some 29), (some (24, false)), .q (.eq .b true (.t 26) (.t 28)), []⟩,
    ⟨(some 30), none, .q (.pick (.t 24) (.v (.bool true)) (.t 29)), []⟩,
    ⟨(some 31), none, .q (.mv (.t 30)), []⟩,
    ⟨(some 32), (some (31, false)), .q (.ld (some 4) (.t 5)), []⟩,
    ⟨(some 34), (some (31, false)), .q (.ld (some 4) (.t 10)), []⟩,
    ⟨(some 33), (some (31, false)), .e (.call 18 [(.t 32)]), [⟨(some (31, false)), .ld (some 4) (.t 10), 34⟩]⟩,
    ⟨(some 35), (some (31, false)), .e (.call 20 [(.t 34)]), []⟩,
    ⟨(some 36), (some (31, false)), .q (.eq .b true (.t 33) (.t 35)), []⟩,
    ⟨(some 37), none, .q (.pick (.t 31) (.v (.bool true)) (.t 36)), []⟩]
def c7_3 : ACode := .ops [
    ⟨(some 8), none, .q (.mv (.v (.bool false))), []⟩]
def c7_4 : ACode := .seq c7_3 .ret
def c7_5 : ACode := .cond (.t 37) c7_4 .skip
def c7_6 : ACode := .seq c7_2 c7_5
def c7_7 : ACode := .ops [
    ⟨(some 38), none, .q (.ld (some 4) (.t 9)), []⟩,
    ⟨(some 39), none, .e (.call 20 [(.t 38)]), []⟩,
    ⟨(some 40), none, .q (.un .not (.t 39)), []⟩,
    ⟨(some 41), none, .q (.mv (.t 40)), []⟩,
    ⟨(some 42), (some (41, false)), .q (.ld (some 4) (.t 10)), []⟩,
    ⟨(some 43), (some (41, false)), .e (.call 20 [(.t 42)]), []⟩,
    ⟨(some 44), (some (41, false)), .q (.un .not (.t 43)), []⟩,
    ⟨(some 45), none, .q (.pick (.t 41) (.v (.bool true)) (.t 44)), []⟩]
def c7_8 : ACode := .ops [
    ⟨(some 8), none, .q (.mv (.v (.bool true))), []⟩]
def c7_9 : ACode := .seq c7_8 .ret
def c7_10 : ACode := .cond (.t 45) c7_9 .skip
def c7_11 : ACode := .seq c7_7 c7_10
def c7_12 : ACode := .ops [
    ⟨(some 46), none, .q (.mv (.t 2)), []⟩,
    ⟨(some 47), none, .q (.bin .gtr (.t 46) (.v (.int .i64 5000))), []⟩,
    ⟨(some 48), none, .q (.mv (.t 47)), []⟩,
    ⟨(some 49), (some (48, false)), .q (.mv (.t 2)), []⟩,
    ⟨(some 50), (some (48, false)), .q (.bin .lss (.t 49) (.v (.int .i64 (-5000)))), []⟩,
    ⟨(some 51), none, .q (.pick (.t 48) (.v (.bool true)) (.t 50)), []⟩,
    ⟨(some 52), none, .q (.mv (.t 51)), []⟩,
    ⟨(some 53), (some (52, false)), .q (.mv (.t 3)), []⟩,
    ⟨(some 54), (some (52, false)), .q (.bin .gtr (.t 53) (.v (.int .i64 5000))), []⟩,
    ⟨(some 55), none, .q (.pick (.t 52) (.v (.bool true)) (.t 54)), []⟩,
    ⟨(some 56), none, .q (.mv (.t 55)), []⟩,
    ⟨(some 57), (some (56, false)), .q (.mv (.t 3)), []⟩,
    ⟨(some 58), (some (56, false)), .q (.bin .lss (.t 57) (.v (.int .i64 (-5000)))), []⟩,
    ⟨(some 59), none, .q (.pick (.t 56) (.v (.bool true)) (.t 58)), []⟩]
def c7_13 : ACode := .ops [
    ⟨(some 60), none, .q (.ld (some 4) (.t 4)), []⟩,
    ⟨(some 61), none, .q (.mv (.t 2)), []⟩,
    ⟨(some 62), none, .q (.mv (.t 3)), []⟩,
    ⟨(some 63), none, .e (.call 17 [(.t 60), (.t 61), (.t 62)]), []⟩,
    ⟨(some 64), none, .q (.un .not (.t 63)), []⟩,
    ⟨(some 8), none, .q (.mv (.t 64)), []⟩]
def c7_14 : ACode := .seq c7_13 .ret
def c7_15 : ACode := .cond (.t 59) c7_14 .skip
def c7_16 : ACode := .seq c7_12 c7_15
def c7_17 : ACode := .ops [
    ⟨(some 66), none, .q (.ld (some 4) (.t 4)), []⟩,
    ⟨(some 67), none, .q (.ld (some 4) (.t 5)), []⟩,
    ⟨(some 68), none, .e (.call 21 [(.t 66), (.t 67)]), []⟩,
    ⟨(some 65), none, .q (.mv (.t 68)), []⟩,
    ⟨(some 69), none, .q (.ext 0 (.t 65)), []⟩,
    ⟨(some 70), none, .q (.ext 1 (.t 65)), []⟩,
    ⟨(some 11), none, .e (.alloc [(.int .i64 0), (.int .i64 0), (.int .i64 0), (.int .i64 0)]), []⟩,
    ⟨none, none, .e (.store 4 (.t 11) (.t 69)), []⟩,
    ⟨(some 12), none, .q (.mv (.t 70)), []⟩]
def c7_18 : ACode := .ops [
    ⟨(some 71), none, .q (.ld (some 4) (.t 4)), []⟩,
    ⟨(some 72), none, .q (.ld (some 4) (.t 5)), []⟩,
    ⟨(some 73), none, .e (.call 22 [(.t 71), (.t 72)]), []⟩,
    ⟨(some 13), none, .q (.mv (.t 73)), []⟩]
def c7_19 : ACode := .ops [
    ⟨(some 14), none, .q (.mv (.v (.int .i64 0))), []⟩]
def c7_20 : ACode := .ops [
    ⟨(some 15), none, .q (.mv (.v (.int .i64 0))), []⟩]
def c7_21 : ACode := .ops [
    ⟨(some 74), none, .q (.mv (.t 13)), []⟩,
    ⟨(some 75), none, .q (.len (.t 74)), []⟩,
    ⟨(some 76), none, .q (.mv (.v (.int .i64 0))), []⟩]
def c7_22 : ACode := .ops [
    ⟨(some 77), none, .q (.bin .lss (.t 76) (.t 75)), []⟩]
def c7_23 : ACode := .cond (.t 77) .skip (.exit 0)
def c7_24 : ACode := .ops [
    ⟨(some 78), none, .q (.ia 4 (.t 74) (.t 76)), []⟩,
    ⟨(some 79), none, .q (.ld (some 4) (.t 78)), []⟩,
    ⟨(some 17), none, .e (.alloc [(.int .i64 0), (.int .i64 0), (.int .i64 0), (.int .i64 0)]), []⟩,
    ⟨none, none, .e (.store 4 (.t 17) (.t 79)), []⟩]
def c7_25 : ACode := .ops [
    ⟨(some 80), none, .q (.ld (some 4) (.t 17)), []⟩,
    ⟨(some 81), none, .e (.call 18 [(.t 80)]), []⟩,
    ⟨(some 82), none, .q (.un .not (.t 81)), []⟩]
def c7_26 : ACode := .ops [
    ⟨(some 8), none, .q (.mv (.v (.bool false))), []⟩]
def c7_27 : ACode := .seq c7_26 .ret
def c7_28 : ACode := .cond (.t 82) c7_27 .skip
def c7_29 : ACode := .seq c7_25 c7_28
def c7_30 : ACode := .ops [
    ⟨(some 83), none, .q (.mv (.t 14)), []⟩,
    ⟨(some 84), none, .q (.ld (some 4) (.t 17)), []⟩,
    ⟨(some 85), none, .e (.call 23 [(.t 84)]), []⟩,
    ⟨(some 86), none, .q (.bin .add (.t 83) (.t 85)), []⟩,
    ⟨(some 14), none, .q (.mv (.t 86)), []⟩]
def c7_31 : ACode := .ops [
    ⟨(some 87), none, .q (.ld (some 4) (.t 17)), []⟩,
    ⟨(some 88), none, .q (.mv (.t 2)), []⟩,
    ⟨(some 89), none, .q (.mv (.t 3)), []⟩,
    ⟨(some 90), none, .e (.call 17 [(.t 87), (.t 88), (.t 89)]), []⟩]
def c7_32 : ACode := .ops [
    ⟨(some 91), none, .q (.mv (.t 15)), []⟩,
    ⟨(some 92), none, .q (.bin .add (.t 91) (.v (.int .i64 1))), []⟩,
    ⟨(some 15), none, .q (.mv (.t 92)), []⟩]
def c7_33 : ACode := .cond (.t 90) c7_32 .skip
def c7_34 : ACode := .seq c7_31 c7_33
def c7_35 : ACode := .seq c7_30 c7_34
def c7_36 : ACode := .seq c7_29 c7_35
def c7_37 : ACode := .seq c7_24 c7_36
def c7_38 : ACode := .block 1 c7_37
def c7_39 : ACode := .ops [
    ⟨(some 93), none, .q (.bin .add (.t 76) (.v (.int .i64 1))), []⟩,
    ⟨(some 76), none, .q (.mv (.t 93)), []⟩]
def c7_40 : ACode := .seq c7_38 c7_39
def c7_41 : ACode := .seq c7_23 c7_40
def c7_42 : ACode := .seq c7_22 c7_41
def c7_43 : ACode := .loop c7_42
def c7_44 : ACode := .block 0 c7_43
def c7_45 : ACode := .seq c7_21 c7_44
def c7_46 : ACode := .ops [
    ⟨(some 94), none, .q (.mv (.t 12)), []⟩]
def c7_47 : ACode := .ops [
    ⟨(some 95), none, .q (.mv (.t 14)), []⟩,
    ⟨(some 96), none, .q (.ld (some 4) (.t 11)), []⟩,
    ⟨(some 97), none, .e (.call 23 [(.t 96)]), []⟩,
    ⟨(some 98), none, .q (.bin .add (.t 95) (.t 97)), []⟩,
    ⟨(some 14), none, .q (.mv (.t 98)), []⟩]
def c7_48 : ACode := .cond (.t 94) c7_47 .skip
def c7_49 : ACode := .seq c7_46 c7_48
def c7_50 : ACode := .ops [
    ⟨(some 99), none, .q (.ld (some 4) (.t 9)), []⟩,
    ⟨(some 100), none, .q (.mv (.t 2)), []⟩,
    ⟨(some 101), none, .q (.mv (.t 3)), []⟩,
    ⟨(some 102), none, .e (.call 24 [(.t 99), (.t 100), (.t 101)]), []⟩,
    ⟨(some 103), none, .q (.mv (.t 102)), []⟩,
    ⟨(some 104), (some (103, true)), .q (.ld (some 4) (.t 10)), []⟩,
    ⟨(some 105), (some (103, true)), .q (.mv (.t 2)), []⟩,
    ⟨(some 106), (some (103, true)), .q (.mv (.t 3)), []⟩,
    ⟨(some 107), (some (103, true)), .e (.call 24 [(.t 104), (.t 105), (.t 106)]), []⟩,
    ⟨(some 108), none, .q (.pick (.t 103) (.t 107) (.v (.bool false))), []⟩,
    ⟨(some 18), none, .q (.mv (.t 108)), []⟩]
def c7_51 : ACode := .ops [
    ⟨(some 19), none, .q (.mv (.v (.int .i64 0))), []⟩]
def c7_52 : ACode := .ops [
    ⟨(some 109), none, .q (.ld (some 4) (.t 9)), []⟩,
    ⟨(some 110), none, .q (.mv (.t 2)), []⟩,
    ⟨(some 111), none, .q (.mv (.t 3)), []⟩,
    ⟨(some 112), none, .e (.call 24 [(.t 109), (.t 110), (.t 111)]), []⟩,
    ⟨(some 113), none, .q (.mv (.t 112)), []⟩,
    ⟨(some 114), (some (113, true)), .q (.ld (some 4) (.t 10)), []⟩,
    ⟨(some 115), (some (113, true)), .q (.mv (.t 2)), []⟩,
    ⟨(some 116), (some (113, true)), .q (.mv (.t 3)), []⟩,
    ⟨(some 117), (some (113, true)), .e (.call 24 [(.t 114), (.t 115), (.t 116)]), []⟩,
    ⟨(some 118), (some (113, true)), .q (.un .not (.t 117)), []⟩,
    ⟨(some 119), none, .q (.pick (.t 113) (.t 118) (.v (.bool false))), []⟩]
def c7_53 : ACode := .ops [
    ⟨(some 19), none, .q (.mv (.v (.int .i64 1))), []⟩]
def c7_54 : ACode := .cond (.t 119) c7_53 .skip
def c7_55 : ACode := .seq c7_52 c7_54
def c7_56 : ACode := .ops [
    ⟨(some 120), none, .q (.ld (some 4) (.t 4)), []⟩,
    ⟨(some 121), none, .q (.mv (.t 2)), []⟩,
    ⟨(some 122), none, .q (.mv (.t 3)), []⟩,
    ⟨(some 124), none, .q (.ld (some 4) (.t 9)), []⟩,
    ⟨(some 125), none, .q (.mv (.t 2)), []⟩,
    ⟨(some 126), none, .q (.mv (.t 3)), []⟩,
    ⟨(some 123), none, .e (.call 17 [(.t 120), (.t 121), (.t 122)]), [⟨none, .ld (some 4) (.t 9), 124⟩]⟩,
    ⟨(some 127), none, .e (.call 24 [(.t 124), (.t 125), (.t 126)]), []⟩,
    ⟨(some 128), none, .q (.eq .b false (.t 123) (.t 127)), []⟩,
    ⟨(some 129), none, .q (.mv (.t 128)), []⟩,
    ⟨(some 130), (some (129, true)), .q (.ld (some 4) (.t 4)), []⟩,
    ⟨(some 132), (some (129, true)), .q (.fa 2 (.t 4)), []⟩,
    ⟨(some 133), (some (129, true)), .q (.ld none (.t 132)), []⟩,
    ⟨(some 134), (some (129, true)), .q (.fa 3 (.t 4)), []⟩,
    ⟨(some 135), (some (129, true)), .q (.ld none (.t 134)), []⟩,
    ⟨(some 136), (some (129, true)), .q (.bin .mul (.t 133) (.t 135)), []⟩,
    ⟨(some 131), (some (129, true)), .e (.call 23 [(.t 130)]), [⟨(some (129, true)), .ld none (.t 132), 133⟩, ⟨(some (129, true)), .ld none (.t 134), 135⟩]⟩,
    ⟨(some 137), (some (129, true)), .q (.bin .eql (.t 131) (.t 136)), []⟩,
    ⟨(some 138), none, .q (.pick (.t 129) (.t 137) (.v (.bool false))), []⟩,
    ⟨(some 139), none, .q (.mv (.t 138)), []⟩,
    ⟨(some 140), (some (139, true)), .q (.mv (.t 13)), []⟩,
    ⟨(some 141), (some (139, true)), .q (.len (.t 140)), []⟩,
    ⟨(some 142), (some (139, true)), .q (.bin .leq (.t 141) (.v (.int .i64 4))), []⟩,
    ⟨(some 143), none, .q (.pick (.t 139) (.t 142) (.v (.bool false))), []⟩,
    ⟨(some 144), none, .q (.mv (.t 143)), []⟩,
    ⟨(some 145), (some (144, true)), .q (.mv (.t 14)), []⟩,
    ⟨(some 146), (some (144, true)), .q (.ld (some 4) (.t 4)), []⟩,
    ⟨(some 147), (some (144, true)), .e (.call 23 [(.t 146)]), []⟩,
    ⟨(some 148), (some (144, true)), .q (.bin .eql (.t 145) (.t 147)), []⟩,
    ⟨(some 149), none, .q (.pick (.t 144) (.t 148) (.v (.bool false))), []⟩,
    ⟨(some 150), none, .q (.mv (.t 149)), []⟩,
    ⟨(some 151), (some (150, true)), .q (.mv (.t 15)), []⟩,
    ⟨(some 152), (some (150, true)), .q (.mv (.t 19)), []⟩,
    ⟨(some 153), (some (150, true)), .q (.bin .eql (.t 151) (.t 152)), []⟩,
    ⟨(some 154), none, .q (.pick (.t 150) (.t 153) (.v (.bool false))), []⟩,
    ⟨(some 155), none, .q (.mv (.t 154)), []⟩,
    ⟨(some 156), (some (155, true)), .q (.mv (.t 12)), []⟩,
    ⟨(some 157), (some (155, true)), .q (.mv (.t 156)), []⟩,
    ⟨(some 158), (some (157, true)), .q (.ld (some 4) (.t 11)), []⟩,
    ⟨(some 159), (some (157, true)), .e (.call 18 [(.t 158)]), []⟩,
    ⟨(some 160), (some (155, true)), .q (.pick (.t 157) (.t 159) (.v (.bool false))), []⟩,
    ⟨(some 161), (some (155, true)), .q (.mv (.t 160)), []⟩,
    ⟨(some 162), (some (161, true)), .q (.ld (some 4) (.t 11)), []⟩,
    ⟨(some 163), (some (161, true)), .q (.mv (.t 2)), []⟩,
    ⟨(some 164), (some (161, true)), .q (.mv (.t 3)), []⟩,
    ⟨(some 166), (some (161, true)), .q (.mv (.t 18)), []⟩,
    ⟨(some 165), (some (161, true)), .e (.call 17 [(.t 162), (.t 163), (.t 164)]), []⟩,
    ⟨(some 167), (some (161, true)), .q (.eq .b false (.t 165) (.t 166)), []⟩,
    ⟨(some 168), (some (155, true)), .q (.pick (.t 161) (.t 167) (.v (.bool false))), []⟩,
    ⟨(some 169), (some (155, true)), .q (.mv (.t 168)), []⟩,
    ⟨(some 170), (some (169, false)), .q (.mv (.t 12)), []⟩,
    ⟨(some 171), (some (169, false)), .q (.un .not (.t 170)), []⟩,
    ⟨(some 172), (some (169, false)), .q (.mv (.t 171)), []⟩,
    ⟨(some 173), (some (172, true)), .q (.mv (.t 18)), []⟩,
    ⟨(some 174), (some (172, true)), .q (.un .not (.t 173)), []⟩,
    ⟨(some 175), (some (169, false)), .q (.pick (.t 172) (.t 174) (.v (.bool false))), []⟩,
    ⟨(some 176), (some (169, false)), .q (.mv (.t 175)), []⟩,
    ⟨(some 177), (some (176, true)), .q (.ld (some 4) (.t 11)), []⟩,
    ⟨(some 178), (some (176, true)), .q (.build [(.int .i64 0), (.int .i64 0), (.int .i64 0), (.int .i64 0)] []), []⟩,
    ⟨(some 179), (some (176, true)), .q (.eqs false [(0, 0), (1, 0), (2, 0), (3, 0)] (.t 177) (.t 178)), []⟩,
    ⟨(some 180), (some (169, false)), .q (.pick (.t 176) (.t 179) (.v (.bool false))), []⟩,
    ⟨(some 181), (some (155, true)), .q (.pick (.t 169) (.v (.bool true)) (.t 180)), []⟩,
    ⟨(some 182), none, .q (.pick (.t 155) (.t 181) (.v (.bool false))), []⟩,
    ⟨(some 8), none, .q (.mv (.t 182)), []⟩]
def c7_57 : ACode := .seq c7_56 .ret
def c7_58 : ACode := .seq c7_55 c7_57
def c7_59 : ACode := .seq c7_51 c7_58
def c7_60 : ACode := .seq c7_50 c7_59
def c7_61 : ACode := .seq c7_49 c7_60
def c7_62 : ACode := .seq c7_45 c7_61
def c7_63 : ACode := .seq c7_20 c7_62
def c7_64 : ACode := .seq c7_19 c7_63
def c7_65 : ACode := .seq c7_18 c7_64
def c7_66 : ACode := .seq c7_17 c7_65
def c7_67 : ACode := .seq c7_16 c7_66
def c7_68 : ACode := .seq c7_11 c7_67
def c7_69 : ACode := .seq c7_6 c7_68
def c7_70 : ACode := .seq c7_1 c7_69
def c7_71 : ACode := .seq c7_0 c7_70
@[go_sem] theorem c7_0_wp (P : Program) (Q : APost) (a : AFr) (σ : ASt) : c7_0.wp P Q a σ = ACode.wp P (.ops [
    ⟨(some 4), none, .e (.box (.t 0)), []⟩,
    ⟨(some 5), none, .e (.box (.t 1)), []⟩,
    ⟨(some 8), none, .q (.mv (.v (.bool false))), []⟩]) Q a σ := id rfl
@[go_sem] theorem c7_1_wp (P : Program) (Q : APost) (a : AFr) (σ : ASt) : c7_1.wp P Q a σ = ACode.wp P (.ops [
    ⟨(some 20), none, .q (.ld (some 4) (.t 4)), []⟩,
    ⟨(some 21), none, .q (.ld (some 4) (.t 5)), []⟩,
    ⟨(some 9), none, .e (.alloc [(.int .i64 0), (.int .i64 0), (.int .i64 0), (.int .i64 0)]), []⟩,
    ⟨(some 10), none, .e (.alloc [(.int .i64 0), (.int .i64 0), (.int .i64 0), (.int .i64 0)]), []⟩,
    ⟨none, none, .e (.store 4 (.t 9) (.t 20)), [⟨none, .ld (some 4) (.t 5), 21⟩]⟩,
    ⟨none, none, .e (.store 4 (.t 10) (.t 21)), []⟩]) Q a σ := id rfl
@[go_sem] theorem c7_2_wp (P : Program) (Q : APost) (a : AFr) (σ : ASt) : c7_2.wp P Q a σ = ACode.wp P (.ops [
    ⟨(some 22), none, .e (.call 11 []), []⟩,
    ⟨(some 23), none, .q (.un .not (.t 22)), []⟩,
    ⟨(some 24), none, .q (.mv (.t 23)), []⟩,
    ⟨(some 25), (some (24, false)), .q (.ld (some 4) (.t 4)), []⟩,
    ⟨(some 27), (some (24, false)), .q (.ld (some 4) (.t 9)), []⟩,
    ⟨(some 26), (some (24, false)), .e (.call 18 [(.t 25)]), [⟨(some (24, false)), .ld (some 4) (.t 9), 27⟩]⟩,
    ⟨(some 28), (some (24, false)), .e (.call 20 [(.t 27)]), []⟩,
    ⟨(some 29), (some (24, false)), .q (.eq .b true (.t 26) (.t 28)), []⟩,
    ⟨(some 30), none, .q (.pick (.t 24) (.v (.bool true)) (.t 29)), []⟩,
    ⟨(some 31), none, .q (.mv (.t 30)), []⟩,
    ⟨(some 32), (some (31, false)), .q (.ld (some 4) (.t 5)), []⟩,
    ⟨(some 34), (some (31, false)), .q (.ld (some 4) (.t 10)), []⟩,
    ⟨(some 33), (some (31, false)), .e (.call 18 [(.t 32)]), [⟨(some (31, false)), .ld (some 4) (.t 10), 34⟩]⟩,
    ⟨(some 35), (some (31, false)), .e (.call 20 [(.t 34)]), []⟩,
    ⟨(some 36), (some (31, false)), .q (.eq .b true (.t 33) (.t 35)), []⟩,
    ⟨(some 37), none, .q (.pick (.t 31) (.v (.bool true)) (.t 36)), []⟩]) Q a σ := id rfl
@[go_sem] theorem c7_3_wp (P : Program) (Q : APost) (a : AFr) (σ : ASt) : c7_3.wp P Q a σ = ACode.wp P (.ops [
    ⟨(some 8), none, .q (.mv (.v (.bool false))), []⟩]) Q a σ := id rfl
@[go_sem] theorem c7_4_wp (P : Program) (Q : APost) (a : AFr) (σ : ASt) : c7_4.wp P Q a σ = ACode.wp P (.seq c7_3 .ret) Q a σ := id rfl
@[go_sem] theorem c7_5_wp (P : Program) (Q : APost) (a : AFr) (σ : ASt) : c7_5.wp P Q a σ = ACode.wp P (.cond (.t 37) c7_4 .skip) Q a σ := id rfl
@[go_sem] theorem c7_6_wp (P : Program) (Q : APost) (a : AFr) (σ : ASt) : c7_6.wp P Q a σ = ACode.wp P (.seq c7_2 c7_5) Q a σ := id rfl
@[go_sem] theorem c7_7_wp (P : Program) (Q : APost) (a : AFr) (σ : ASt) : c7_7.wp P Q a σ = ACode.wp P (.ops [
    ⟨(some 38), none, .q (.ld (some 4) (.t 9)), []⟩,
    ⟨(some 39), none, .e (.call 20 [(.t 38)]), []⟩,
    ⟨(some 40), none, .q (.un .not (.t 39)), []⟩,
    ⟨(some 41), none, .q (.mv (.t 40)), []⟩,
    ⟨(some 42), (some (41, false)), .q (.ld (some 4) (.t 10)), []⟩,
    ⟨(some 43), (some (41, false)), .e (.call 20 [(.t 42)]), []⟩,
    ⟨(some 44), (some (41, false)), .q (.un .not (.t 43)), []⟩,
    ⟨(some 45), none, .q (.pick (.t 41) (.v (.bool true)) (.t 44)), []⟩]) Q a σ := id rfl
@[go_sem] theorem c7_8_wp (P : Program) (Q : APost) (a : AFr) (σ : ASt) : c7_8.wp P Q a σ = ACode.wp P (.ops [
    ⟨(some 8), none, .q (.mv (.v (.bool true))), []⟩]) Q a σ := id rfl
@[go_sem] theorem c7_9_wp (P : Program) (Q : APost) (a : AFr) (σ : ASt) : c7_9.wp P Q a σ = ACode.wp P (.seq c7_8 .ret) Q a σ := id rfl
@[go_sem] theorem c7_10_wp (P : Program) (Q : APost) (a : AFr) (σ : ASt) : c7_10.wp P Q a σ = ACode.wp P (.cond (.t 45) c7_9 .skip) Q a σ := id rfl
@[go_sem] theorem c7_11_wp (P : Program) (Q : APost) (a : AFr) (σ : ASt) : c7_11.wp P Q a σ = ACode.wp P (.seq c7_7 c7_10) Q a σ := id rfl
@[go_sem] theorem c7_12_wp (P : Program) (Q : APost) (a : AFr) (σ : ASt) : c7_12.wp P Q a σ = ACode.wp P (.ops [
    ⟨(some 46), none, .q (.mv (.t 2)), []⟩,
    ⟨(some 47), none, .q (.bin .gtr (.t 46) (.v (.int .i64 5000))), []⟩,
    ⟨(some 48), none, .q (.mv (.t 47)), []⟩,
    ⟨(some 49), (some (48, false)), .q (.mv (.t 2)), []⟩,
    ⟨(some 50), (some (48, false)), .q (.bin .lss (.t 49) (.v (.int .i64 (-5000)))), []⟩,
    ⟨(some 51), none, .q (.pick (.t 48) (.v (.bool true)) (.t 50)), []⟩,
    ⟨(some 52), none, .q (.mv (.t 51)), []⟩,
    ⟨(some 53), (some (52, false)), .q (.mv (.t 3)), []⟩,
    ⟨(some 54), (some (52, false)), .q (.bin .gtr (.t 53) (.v (.int .i64 5000))), []⟩,
    ⟨(some 55), none, .q (.pick (.t 52) (.v (.bool true)) (.t 54)), []⟩,
    ⟨(some 56), none, .q (.mv (.t 55)), []⟩,
    ⟨(some 57), (some (56, false)), .q (.mv (.t 3)), []⟩,
    ⟨(some 58), (some (56, false)), .q (.bin .lss (.t 57) (.v (.int .i64 (-5000)))), []⟩,
    ⟨(some 59), none, .q (.pick (.t 56) (.v (.bool true)) (.t 58)), []⟩]) Q a σ := id rfl
@[go_sem] theorem c7_13_wp (P : Program) (Q : APost) (a : AFr) (σ : ASt) : c7_13.wp P Q a σ = ACode.wp P (.ops [
    ⟨(some 60), none, .q (.ld (some 4) (.t 4)), []⟩,
    ⟨(some 61), none, .q (.mv (.t 2)), []⟩,
    ⟨(some 62), none, .q (.mv (.t 3)), []⟩,
    ⟨(some 63), none, .e (.call 17 [(.t 60), (.t 61), (.t 62)]), []⟩,
    ⟨(some 64), none, .q (.un .not (.t 63)), []⟩,
    ⟨(some 8), none, .q (.mv (.t 64)), []⟩]) Q a σ := id rfl
@[go_sem] theorem c7_14_wp (P : Program) (Q : APost) (a : AFr) (σ : ASt) : c7_14.wp P Q a σ = ACode.wp P (.seq c7_13 .ret) Q a σ := id rfl
@[go_sem] theorem c7_15_wp (P : Program) (Q : APost) (a : AFr) (σ : ASt) : c7_15.wp P Q a σ = ACode.wp P (.cond (.t 59) c7_14 .skip) Q a σ := id rfl
@[go_sem] theorem c7_16_wp (P : Program) (Q : APost) (a : AFr) (σ : ASt) : c7_16.wp P Q a σ = ACode.wp P (.seq c7_12 c7_15) Q a σ := id rfl
@[go_sem] theorem c7_17_wp (P : Program) (Q : APost) (a : AFr) (σ : ASt) : c7_17.wp P Q a σ = ACode.wp P (.ops [
    ⟨(some 66), none, .q (.ld (some 4) (.t 4)), []⟩,
    ⟨(some 67), none, .q (.ld (some 4) (.t 5)), []⟩,
    ⟨(some 68), none, .e (.call 21 [(.t 66), (.t 67)]), []⟩,
    ⟨(some 65), none, .q (.mv (.t 68)), []⟩,
    ⟨(some 69), none, .q (.ext 0 (.t 65)), []⟩,
    ⟨(some 70), none, .q (.ext 1 (.t 65)), []⟩,
    ⟨(some 11), none, .e (.alloc [(.int .i64 0), (.int .i64 0), (.int .i64 0), (.int .i64 0)]), []⟩,
    ⟨none, none, .e (.store 4 (.t 11) (.t 69)), []⟩,
    ⟨(some 12), none, .q (.mv (.t 70)), []⟩]) Q a σ := id rfl
@[go_sem] theorem c7_18_wp (P : Program) (Q : APost) (a : AFr) (σ : ASt) : c7_18.wp P Q a σ = ACode.wp P (.ops [
    ⟨(some 71), none, .q (.ld (some 4) (.t 4)), []⟩,
    ⟨(some 72), none, .q (.ld (some 4) (.t 5)), []⟩,
    ⟨(some 73), none, .e (.call 22 [(.t 71), (.t 72)]), []⟩,
    ⟨(some 13), none, .q (.mv (.t 73)), []⟩]) Q a σ := id rfl
@[go_sem] theorem c7_19_wp (P : Program) (Q : APost) (a : AFr) (σ : ASt) : c7_19.wp P Q a σ = ACode.wp P (.ops [
    ⟨(some 14), none, .q (.mv (.v (.int .i64 0))), []⟩]) Q a σ := id rfl
@[go_sem] theorem c7_20_wp (P : Program) (Q : APost) (a : AFr) (σ : ASt) : c7_20.wp P Q a σ = ACode.wp P (.ops [
    ⟨(some 15), none, .q (.mv (.v (.int .i64 0))), []⟩]) Q a σ := id rfl
@[go_sem] theorem c7_21_wp (P : Program) (Q : APost) (a : AFr) (σ : ASt) : c7_21.wp P Q a σ = ACode.wp P (.ops [
    ⟨(some 74), none, .q (.mv (.t 13)), []⟩,
    ⟨(some 75), none, .q (.len (.t 74)), []⟩,
    ⟨(some 76), none, .q (.mv (.v (.int .i64 0))), []⟩]) Q a σ := id rfl
@[go_sem] theorem c7_22_wp (P : Program) (Q : APost) (a : AFr) (σ : ASt) : c7_22.wp P Q a σ = ACode.wp P (.ops [
    ⟨(some 77), none, .q (.bin .lss (.t 76) (.t 75)), []⟩]) Q a σ := id rfl
@[go_sem] theorem c7_23_wp (P : Program) (Q : APost) (a : AFr) (σ : ASt) : c7_23.wp P Q a σ = ACode.wp P (.cond (.t 77) .skip (.exit 0)) Q a σ := id rfl
@[go_sem] theorem c7_24_wp (P : Program) (Q : APost) (a : AFr) (σ : ASt) : c7_24.wp P Q a σ = ACode.wp P (.ops [
    ⟨(some 78), none, .q (.ia 4 (.t 74) (.t 76)), []⟩,
    ⟨(some 79), none, .q (.ld (some 4) (.t 78)), []⟩,
    ⟨(some 17), none, .e (.alloc [(.int .i64 0), (.int .i64 0), (.int .i64 0), (.int .i64 0)]), []⟩,
    ⟨none, none, .e (.store 4 (.t 17) (.t 79)), []⟩]) Q a σ := id rfl
@[go_sem] theorem c7_25_wp (P : Program) (Q : APost) (a : AFr) (σ : ASt) : c7_25.wp P Q a σ = ACode.wp P (.ops [
    ⟨(some 80), none, .q (.ld (some 4) (.t 17)), []⟩,
    ⟨(some 81), none, .e (.call 18 [(.t 80)]), []⟩,
    ⟨(some 82), none, .q (.un .not (.t 81)), []⟩]) Q a σ := id rfl
@[go_sem] theorem c7_26_wp (P : Program) (Q : APost) (a : AFr) (σ : ASt) : c7_26.wp P Q a σ = ACode.wp P (.ops [
    ⟨(some 8), none, .q (.mv (.v (.bool false))), []⟩]) Q a σ := id rfl
@[go_sem] theorem c7_27_wp (P : Program) (Q : APost) (a : AFr) (σ : ASt) : c7_27.wp P Q a σ = ACode.wp P (.seq c7_26 .ret) Q a σ := id rfl
@[go_sem] theorem c7_28_wp (P : Program) (Q : APost) (a : AFr) (σ : ASt) : c7_28.wp P Q a σ = ACode.wp P (.cond (.t 82) c7_27 .skip) Q a σ := id rfl
@[go_sem] theorem c7_29_wp (P : Program) (Q : APost) (a : AFr) (σ : ASt) : c7_29.wp P Q a σ = ACode.wp P (.seq c7_25 c7_28) Q a σ := id rfl
@[go_sem] theorem c7_30_wp (P : Program) (Q : APost) (a : AFr) (σ : ASt) : c7_30.wp P Q a σ = ACode.wp P (.ops [
    ⟨(some 83), none, .q (.mv (.t 14)), []⟩,
    ⟨(some 84), none, .q (.ld (some 4) (.t 17)), []⟩,
    ⟨(some 85), none, .e (.call 23 [(.t 84)]), []⟩,
    ⟨(some 86), none, .q (.bin .add (.t 83) (.t 85)), []⟩,
    ⟨(some 14), none, .q (.mv (.t 86)), []⟩]) Q a σ := id rfl
@[go_sem] theorem c7_31_wp (P : Program) (Q : APost) (a : AFr) (σ : ASt) : c7_31.wp P Q a σ = ACode.wp P (.ops [
    ⟨(some 87), none, .q (.ld (some 4) (.t 17)), []⟩,
    ⟨(some 88), none, .q (.mv (.t 2)), []⟩,
    ⟨(some 89), none, .q (.mv (.t 3)), []⟩,
    ⟨(some 90), none, .e (.call 17 [(.t 87), (.t 88), (.t 89)]), []⟩]) Q a σ := id rfl
@[go_sem] theorem c7_32_wp (P : Program) (Q : APost) (a : AFr) (σ : ASt) : c7_32.wp P Q a σ = ACode.wp P (.ops [
    ⟨(some 91), none, .q (.mv (.t 15)), []⟩,
    ⟨(some 92), none, .q (.bin .add (.t 91) (.v (.int .i64 1))), []⟩,
    ⟨(some 15), none, .q (.mv (.t 92)), []⟩]) Q a σ := id rfl
@[go_sem] theorem c7_33_wp (P : Program) (Q : APost) (a : AFr) (σ : ASt) : c7_33.wp P Q a σ = ACode.wp P (.cond (.t 90) c7_32 .skip) Q a σ := id rfl
@[go_sem] theorem c7_34_wp (P : Program) (Q : APost) (a : AFr) (σ : ASt) : c7_34.wp P Q a σ = ACode.wp P (.seq c7_31 c7_33) Q a σ := id rfl
@[go_sem] theorem c7_35_wp (P : Program) (Q : APost) (a : AFr) (σ : ASt) : c7_35.wp P Q a σ = ACode.wp P (.seq c7_30 c7_34) Q a σ := id rfl
@[go_sem] theorem c7_36_wp (P : Program) (Q : APost) (a : AFr) (σ : ASt) : c7_36.wp P Q a σ = ACode.wp P (.seq c7_29 c7_35) Q a σ := id rfl
@[go_sem] theorem c7_37_wp (P : Program) (Q : APost) (a : AFr) (σ : ASt) : c7_37.wp P Q a σ = ACode.wp P (.seq c7_24 c7_36) Q a σ := id rfl
@[go_sem] theorem c7_38_wp (P : Program) (Q : APost) (a : AFr) (σ : ASt) : c7_38.wp P Q a σ = ACode.wp P (.block 1 c7_37) Q a σ := id rfl
@[go_sem] theorem c7_39_wp (P : Program) (Q : APost) (a : AFr) (σ : ASt) : c7_39.wp P Q a σ = ACode.wp P (.ops [
    ⟨(some 93), none, .q (.bin .add (.t 76) (.v (.int .i64 1))), []⟩,
    ⟨(some 76), none, .q (.mv (.t 93)), []⟩]) Q a σ := id rfl
@[go_sem] theorem c7_40_wp (P : Program) (Q : APost) (a : AFr) (σ : ASt) : c7_40.wp P Q a σ = ACode.wp P (.seq c7_38 c7_39) Q a σ := id rfl
@[go_sem] theorem c7_41_wp (P : Program) (Q : APost) (a : AFr) (σ : ASt) : c7_41.wp P Q a σ = ACode.wp P (.seq c7_23 c7_40) Q a σ := id rfl
@[go_sem] theorem c7_42_wp (P : Program) (Q : APost) (a : AFr) (σ : ASt) : c7_42.wp P Q a σ = ACode.wp P (.seq c7_22 c7_41) Q a σ := id rfl
@[go_sem] theorem c7_43_wp (P : Program) (Q : APost) (a : AFr) (σ : ASt) : c7_43.wp P Q a σ = ACode.wp P (.loop c7_42) Q a σ := id rfl
@[go_sem] theorem c7_44_wp (P : Program) (Q : APost) (a : AFr) (σ : ASt) : c7_44.wp P Q a σ = ACode.wp P (.block 0 c7_43) Q a σ := id rfl
@[go_sem] theorem c7_45_wp (P : Program) (Q : APost) (a : AFr) (σ : ASt) : c7_45.wp P Q a σ = ACode.wp P (.seq c7_21 c7_44) Q a σ := id rfl
@[go_sem] theorem c7_46_wp (P : Program) (Q : APost) (a : AFr) (σ : ASt) : c7_46.wp P Q a σ = ACode.wp P (.ops [
    ⟨(some 94), none, .q (.mv (.t 12)), []⟩]) Q a σ := id rfl
@[go_sem] theorem c7_47_wp (P : Program) (Q : APost) (a : AFr) (σ : ASt) : c7_47.wp P Q a σ = ACode.wp P (.ops [
    ⟨(some 95), none, .q (.mv (.t 14)), []⟩,
    ⟨(some 96), none, .q (.ld (some 4) (.t 11)), []⟩,
    ⟨(some 97), none, .e (.call 23 [(.t 96)]), []⟩,
    ⟨(some 98), none, .q (.bin .add (.t 95) (.t 97)), []⟩,
    ⟨(some 14), none, .q (.mv (.t 98)), []⟩]) Q a σ := id rfl
@[go_sem] theorem c7_48_wp (P : Program) (Q : APost) (a : AFr) (σ : ASt) : c7_48.wp P Q a σ = ACode.wp P (.cond (.t 94) c7_47 .skip) Q a σ := id rfl
@[go_sem] theorem c7_49_wp (P : Program) (Q : APost) (a : AFr) (σ : ASt) : c7_49.wp P Q a σ = ACode.wp P (.seq c7_46 c7_48) Q a σ := id rfl
@[go_sem] theorem c7_50_wp (P : Program) (Q : APost) (a : AFr) (σ : ASt) : c7_50.wp P Q a σ = ACode.wp P (.ops [
    ⟨(some 99), none, .q (.ld (some 4) (.t 9)), []⟩,
    ⟨(some 100), none, .q (.mv (.t 2)), []⟩,
    ⟨(some 101), none, .q (.mv (.t 3)), []⟩,
    ⟨(some 102), none, .e (.call 24 [(.t 99), (.t 100), (.t 101)]), []⟩,
    ⟨(some 103), none, .q (.mv (.t 102)), []⟩,
    ⟨(some 104), (some (103, true)), .q (.ld (some 4) (.t 10)), []⟩,
    ⟨(some 105), (some (103, true)), .q (.mv (.t 2)), []⟩,
    ⟨(some 106), (some (103, true)), .q (.mv (.t 3)), []⟩,
    ⟨(some 107), (some (103, true)), .e (.call 24 [(.t 104), (.t 105), (.t 106)]), []⟩,
    ⟨(some 108), none, .q (.pick (.t 103) (.t 107) (.v (.bool false))), []⟩,
    ⟨(some 18), none, .q (.mv (.t 108)), []⟩]) Q a σ := id rfl
@[go_sem] theorem c7_51_wp (P : Program) (Q : APost) (a : AFr) (σ : ASt) : c7_51.wp P Q a σ = ACode.wp P (.ops [
    ⟨(some 19), none, .q (.mv (.v (.int .i64 0))), []⟩]) Q a σ := id rfl
@[go_sem] theorem c7_52_wp (P : Program) (Q : APost) (a : AFr) (σ : ASt) : c7_52.wp P Q a σ = ACode.wp P (.ops [
    ⟨(some 109), none, .q (.ld (some 4) (.t 9)), []⟩,
    ⟨(some 110), none, .q (.mv (.t 2)), []⟩,
    ⟨(some 111), none, .q (.mv (.t 3)), []⟩,
    ⟨(some 112), none, .e (.call 24 [(.t 109), (.t 110), (.t 111)]), []⟩,
    ⟨(some 113), none, .q (.mv (.t 112)), []⟩,
    ⟨(some 114), (some (113, true)), .q (.ld (some 4) (.t 10)), []⟩,
    ⟨(some 115), (some (113, true)), .q (.mv (.t 2)), []⟩,
    ⟨(some 116), (some (113, true)), .q (.mv (.t 3)), []⟩,
    ⟨(some 117), (some (113, true)), .e (.call 24 [(.t 114), (.t 115), (.t 116)]), []⟩,
    ⟨(some 118), (some (113, true)), .q (.un .not (.t 117)), []⟩,
    ⟨(some 119), none, .q (.pick (.t 113) (.t 118) (.v (.bool false))), []⟩]) Q a σ := id rfl
@[go_sem] theorem c7_53_wp (P : Program) (Q : APost) (a : AFr) (σ : ASt) : c7_53.wp P Q a σ = ACode.wp P (.ops [
    ⟨(some 19), none, .q (.mv (.v (.int .i64 1))), []⟩]) Q a σ := id rfl
@[go_sem] theorem c7_54_wp (P : Program) (Q : APost) (a : AFr) (σ : ASt) : c7_54.wp P Q a σ = ACode.wp P (.cond (.t 119) c7_53 .skip) Q a σ := id rfl
@[go_sem] theorem c7_55_wp (P : Program) (Q : APost) (a : AFr) (σ : ASt) : c7_55.wp P Q a σ = ACode.wp P (.seq c7_52 c7_54) Q a σ := id rfl
@[go_sem] theorem c7_56_wp (P : Program) (Q : APost) (a : AFr) (σ : ASt) : c7_56.wp P Q a σ = ACode.wp P (.ops [
    ⟨(some 120), none, .q (.ld (some 4) (.t 4)), []⟩,
    ⟨(some 121), none, .q (.mv (.t 2)), []⟩,
    ⟨(some 122), none, .q (.mv (.t 3)), []⟩,
    ⟨(some 124), none, .q (.ld (some 4) (.t 9)), []⟩,
    ⟨(some 125), none, .q (.mv (.t 2)), []⟩,
    ⟨(some 126), none, .q (.mv (.t 3)), []⟩,
    ⟨(some 123), none, .e (.call 17 [(.t 120), (.t 121), (.t 122)]), [⟨none, .ld (some 4) (.t 9), 124⟩]⟩,
    ⟨(some 127), none, .e (.call 24 [(.t 124), (.t 125), (.t 126)]), []⟩,
    ⟨(some 128), none, .q (.eq .b false (.t 123) (.t 127)), []⟩,
    ⟨(some 129), none, .q (.mv (.t 128)), []⟩,
    ⟨(some 130), (some (129, true)), .q (.ld (some 4) (.t 4)), []⟩,
    ⟨(some 132), (some (129, true)), .q (.fa 2 (.t 4)), []⟩,
    ⟨(some 133), (some (129, true)), .q (.ld none (.t 132)), []⟩,
    ⟨(some 134), (some (129, true)), .q (.fa 3 (.t 4)), []⟩,
    ⟨(some 135), (some (129, true)), .q (.ld none (.t 134)), []⟩,
    ⟨(some 136), (some (129, true)), .q (.bin .mul (.t 133) (.t 135)), []⟩,
    ⟨(some 131), (some (129, true)), .e (.call 23 [(.t 130)]), [⟨(some (129, true)), .ld none (.t 132), 133⟩, ⟨(some (129, true)), .ld none (.t 134), 135⟩]⟩,
    ⟨(some 137), (some (129, true)), .q (.bin .eql (.t 131) (.t 136)), []⟩,
    ⟨(some 138), none, .q (.pick (.t 129) (.t 137) (.v (.bool false))), []⟩,
    ⟨(some 139), none, .q (.mv (.t 138)), []⟩,
    ⟨(some 140), (some (139, true)), .q (.mv (.t 13)), []⟩,
    ⟨(some 141), (some (139, true)), .q (.len (.t 140)), []⟩,
    ⟨(some 142), (some (139, true)), .q (.bin .leq (.t 141) (.v (.int .i64 4))), []⟩,
    ⟨(some 143), none, .q (.pick (.t 139) (.t 142) (.v (.bool false))), []⟩,
    ⟨(some 144), none, .q (.mv (.t 143)), []⟩,
    ⟨(some 145), (some (144, true)), .q (.mv (.t 14)), []⟩,
    ⟨(some 146), (some (144, true)), .q (.ld (some 4) (.t 4)), []⟩,
    ⟨(some 147), (some (144, true)), .e (.call 23 [(.t 146)]), []⟩,
    ⟨(some 148), (some (144, true)), .q (.bin .eql (.t 145) (.t 147)), []⟩,
    ⟨(some 149), none, .q (.pick (.t 144) (.t 148) (.v (.bool false))), []⟩,
    ⟨(some 150), none, .q (.mv (.t 149)), []⟩,
    ⟨(some 151), (some (150, true)), .q (.mv (.t 15)), []⟩,
    ⟨(some 152), (some (150, true)), .q (.mv (.t 19)), []⟩,
    ⟨(some 153), (some (150, true)), .q (.bin .eql (.t 151) (.t 152)), []⟩,
    ⟨(some 154), none, .q (.pick (.t 150) (.t 153) (.v (.bool false))), []⟩,
    ⟨(some 155), none, .q (.mv (.t 154)), []⟩,
    ⟨(some 156), (some (155, true)), .q (.mv (.t 12)), []⟩,
    ⟨(some 157), (some (155, true)), .q (.mv (.t 156)), []⟩,
    ⟨(some 158), (some (157, true)), .q (.ld (some 4) (.t 11)), []⟩,
    ⟨(some 159), (some (157, true)), .e (.call 18 [(.t 158)]), []⟩,
    ⟨(some 160), (some (155, true)), .q (.pick (.t 157) (.t 159) (.v (.bool false))), []⟩,
    ⟨(some 161), (some (155, true)), .q (.mv (.t 160)), []⟩,
    ⟨(some 162), (some (161, true)), .q (.ld (some 4) (.t 11)), []⟩,
    ⟨(some 163), (some (161, true)), .q (.mv (.t 2)), []⟩,
    ⟨(some 164), (some (161, true)), .q (.mv (.t 3)), []⟩,
    ⟨(some 166), (some (161, true)), .q (.mv (.t 18)), []⟩,
    ⟨(some 165), (some (161, true)), .e (.call 17 [(.t 162), (.t 163), (.t 164)]), []⟩,
    ⟨(some 167), (some (161, true)), .q (.eq .b false (.t 165) (.t 166)), []⟩,
    ⟨(some 168), (some (155, true)), .q (.pick (.t 161) (.t 167) (.v (.bool false))), []⟩,
    ⟨(some 169), (some (155, true)), .q (.mv (.t 168)), []⟩,
    ⟨(some 170), (some (169, false)), .q (.mv (.t 12)), []⟩,
    ⟨(some 171), (some (169, false)), .q (.un .not (.t 170)), []⟩,
    ⟨(some 172), (some (169, false)), .q (.mv (.t 171)), []⟩,
    ⟨(some 173), (some (172, true)), .q (.mv (.t 18)), []⟩,
    ⟨(some 174), (some (172, true)), .q (.un .not (.t 173)), []⟩,
    ⟨(some 175), (some (169, false)), .q (.pick (.t 172) (.t 174) (.v (.bool false))), []⟩,
    ⟨(some 176), (some (169, false)), .q (.mv (.t 175)), []⟩,
    ⟨(some 177), (some (176, true)), .q (.ld (some 4) (.t 11)), []⟩,
    ⟨(some 178), (some (176, true)), .q (.build [(.int .i64 0), (.int .i64 0), (.int .i64 0), (.int .i64 0)] []), []⟩,
    ⟨(some 179), (some (176, true)), .q (.eqs false [(0, 0), (1, 0), (2, 0), (3, 0)] (.t 177) (.t 178)), []⟩,
    ⟨(some 180), (some (169, false)), .q (.pick (.t 176) (.t 179) (.v (.bool false))), []⟩,
    ⟨(some 181), (some (155, true)), .q (.pick (.t 169) (.v (.bool true)) (.t 180)), []⟩,
    ⟨(some 182), none, .q (.pick (.t 155) (.t 181) (.v (.bool false))), []⟩,
    ⟨(some 8), none, .q (.mv (.t 182)), []⟩]) Q a σ := id rfl
@[go_sem] theorem c7_57_wp (P : Program) (Q : APost) (a : AFr) (σ : ASt) : c7_57.wp P Q a σ = ACode.wp P (.seq c7_56 .ret) Q a σ := id rfl
@[go_sem] theorem c7_58_wp (P : Program) (Q : APost) (a : AFr) (σ : ASt) : c7_58.wp P Q a σ = ACode.wp P (.seq c7_55 c7_57) Q a σ := id rfl
@[go_sem] theorem c7_59_wp (P : Program) (Q : APost) (a : AFr) (σ : ASt) : c7_59.wp P Q a σ = ACode.wp P (.seq c7_51 c7_58) Q a σ := id rfl
@[go_sem] theorem c7_60_wp (P : Program) (Q : APost) (a : AFr) (σ : ASt) : c7_60.wp P Q a σ = ACode.wp P (.seq c7_50 c7_59) Q a σ := id rfl
@[go_sem] theorem c7_61_wp (P : Program) (Q : APost) (a : AFr) (σ : ASt) : c7_61.wp P Q a σ = ACode.wp P (.seq c7_49 c7_60) Q a σ := id rfl
@[go_sem] theorem c7_62_wp (P : Program) (Q : APost) (a : AFr) (σ : ASt) : c7_62.wp P Q a σ = ACode.wp P (.seq c7_45 c7_61) Q a σ := id rfl
@[go_sem] theorem c7_63_wp (P : Program) (Q : APost) (a : AFr) (σ : ASt) : c7_63.wp P Q a σ = ACode.wp P (.seq c7_20 c7_62) Q a σ := id rfl
@[go_sem] theorem c7_64_wp (P : Program) (Q : APost) (a : AFr) (σ : ASt) : c7_64.wp P Q a σ = ACode.wp P (.seq c7_19 c7_63) Q a σ := id rfl
@[go_sem] theorem c7_65_wp (P : Program) (Q : APost) (a : AFr) (σ : ASt) : c7_65.wp P Q a σ = ACode.wp P (.seq c7_18 c7_64) Q a σ := id rfl
@[go_sem] theorem c7_66_wp (P : Program) (Q : APost) (a : AFr) (σ : ASt) : c7_66.wp P Q a σ = ACode.wp P (.seq c7_17 c7_65) Q a σ := id rfl
@[go_sem] theorem c7_67_wp (P : Program) (Q : APost) (a : AFr) (σ : ASt) : c7_67.wp P Q a σ = ACode.wp P (.seq c7_16 c7_66) Q a σ := id rfl
@[go_sem] theorem c7_68_wp (P : Program) (Q : APost) (a : AFr) (σ : ASt) : c7_68.wp P Q a σ = ACode.wp P (.seq c7_11 c7_67) Q a σ := id rfl
@[go_sem] theorem c7_69_wp (P : Program) (Q : APost) (a : AFr) (σ : ASt) : c7_69.wp P Q a σ = ACode.wp P (.seq c7_6 c7_68) Q a σ := id rfl
@[go_sem] theorem c7_70_wp (P : Program) (Q : APost) (a : AFr) (σ : ASt) : c7_70.wp P Q a σ = ACode.wp P (.seq c7_1 c7_69) Q a σ := id rfl
@[go_sem] theorem c7_71_wp (P : Program) (Q : APost) (a : AFr) (σ : ASt) : c7_71.wp P Q a σ = ACode.wp P (.seq c7_0 c7_70) Q a σ := id rfl
def c7 : AFn := ⟨183, [.t 8], c7_71⟩
set_option maxRecDepth 100000 in
theorem c7_ok : compF Try.prog Try.f7 = some c7 := by kernel_rfl
theorem a7 {args : List AV} {σ : ASt} {R : AV → ASt → Prop} (hl : args.length ≤ 183) (h : c7_71.wp Try.prog (RetQ [.t 8] R) (init args) σ) : ACalls Try.prog 7 args σ R := acalls_of Try.func7 c7_ok hl h

end Go.A
