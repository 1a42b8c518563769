/- The functions, compiled: by program (wip/gencode.py). -/
import Derived.Test.YtfjnahkcfdcbeaaDoorBk
import Derived.Test.YtfjnahkcfdcbeaaDoorProg
import Derived.KernelRfl
namespace Go.A
open Go.Proofs

/-! 4: tabular/tabularlaw10.AddrReads -/
def c4_0 : ACode := .ops [
    ⟨(some 5), none, .e (.box (.t 1)), []⟩,
    ⟨(some 8), none, .q (.mv (.v (.bool false))), []⟩]
def c4_1 : ACode := .ops [
    ⟨(some 25), none, .q (.mv (.t 0)), []⟩,
    ⟨(some 26), none, .e (.call 15 [(.t 25), (.v (.int .i64 30))]), []⟩,
    ⟨(some 0), none, .q (.mv (.t 26)), []⟩]
def c4_2 : ACode := .ops [
    ⟨(some 28), none, .q (.mv (.t 0)), []⟩,
    ⟨(some 29), none, .e (.call 16 [(.t 28)]), []⟩,
    ⟨(some 27), none, .q (.mv (.t 29)), []⟩,
    ⟨(some 30), none, .q (.ext 0 (.t 27)), []⟩,
    ⟨(some 31), none, .q (.ext 1 (.t 27)), []⟩,
    ⟨(some 9), none, .e (.alloc [(.int .i64 0), (.int .i64 0), (.bool false), (.bool false)]), []⟩,
    ⟨none, none, .e (.store 4 (.t 9) (.t 30)), []⟩,
    ⟨(some 10), none, .q (.mv (.t 31)), []⟩]
def c4_3 : ACode := .ops [
    ⟨(some 33), none, .q (.mv (.t 0)), []⟩,
    ⟨(some 34), none, .e (.call 17 [(.t 33)]), []⟩,
    ⟨(some 32), none, .q (.mv (.t 34)), []⟩,
    ⟨(some 35), none, .q (.ext 0 (.t 32)), []⟩,
    ⟨(some 36), none, .q (.ext 1 (.t 32)), []⟩,
    ⟨(some 11), none, .e (.alloc [(.int .i64 0), (.int .i64 0), (.bool false), (.bool false)]), []⟩,
    ⟨none, none, .e (.store 4 (.t 11) (.t 35)), []⟩,
    ⟨(some 12), none, .q (.mv (.t 36)), []⟩]
def c4_4 : ACode := .ops [
    ⟨(some 38), none, .q (.mv (.t 0)), []⟩,
    ⟨(some 39), none, .e (.call 11 [(.t 38)]), []⟩,
    ⟨(some 37), none, .q (.mv (.t 39)), []⟩,
    ⟨(some 40), none, .q (.ext 0 (.t 37)), []⟩,
    ⟨(some 41), none, .q (.ext 1 (.t 37)), []⟩,
    ⟨(some 13), none, .e (.alloc [(.int .i64 0), (.int .i64 0), (.bool false), (.bool false)]), []⟩,
    ⟨none, none, .e (.store 4 (.t 13) (.t 40)), []⟩,
    ⟨(some 14), none, .q (.mv (.t 41)), []⟩]
def c4_5 : ACode := .ops [
    ⟨(some 42), none, .e (.call 10 []), []⟩,
    ⟨(some 43), none, .q (.un .not (.t 42)), []⟩,
    ⟨(some 44), none, .q (.mv (.t 43)), []⟩,
    ⟨(some 45), (some (44, false)), .q (.ld (some 4) (.t 9)), []⟩,
    ⟨(some 46), (some (44, false)), .q (.ld (some 4) (.t 11)), []⟩,
    ⟨(some 47), (some (44, false)), .q (.eqs true [(0, 0), (1, 0), (2, 1), (3, 1)] (.t 45) (.t 46)), []⟩,
    ⟨(some 48), none, .q (.pick (.t 44) (.v (.bool true)) (.t 47)), []⟩,
    ⟨(some 49), none, .q (.mv (.t 48)), []⟩,
    ⟨(some 50), (some (49, false)), .q (.mv (.t 10)), []⟩,
    ⟨(some 51), (some (49, false)), .q (.mv (.t 12)), []⟩,
    ⟨(some 52), (some (49, false)), .q (.bin .neq (.t 50) (.t 51)), []⟩,
    ⟨(some 53), none, .q (.pick (.t 49) (.v (.bool true)) (.t 52)), []⟩,
    ⟨(some 54), none, .q (.mv (.t 53)), []⟩,
    ⟨(some 55), (some (54, false)), .q (.mv (.t 14)), []⟩,
    ⟨(some 56), (some (54, false)), .q (.mv (.t 12)), []⟩,
    ⟨(some 57), (some (54, false)), .q (.bin .gtr (.t 56) (.v (.int .i64 0))), []⟩,
    ⟨(some 58), (some (54, false)), .q (.mv (.t 57)), []⟩,
    ⟨(some 59), (some (58, true)), .q (.mv (.t 12)), []⟩,
    ⟨(some 60), (some (58, true)), .q (.mv (.t 0)), []⟩,
    ⟨(some 61), (some (58, true)), .q (.lenS (.t 60)), []⟩,
    ⟨(some 62), (some (58, true)), .q (.bin .eql (.t 59) (.t 61)), []⟩,
    ⟨(some 63), (some (54, false)), .q (.pick (.t 58) (.t 62) (.v (.bool false))), []⟩,
    ⟨(some 64), (some (54, false)), .q (.eq .b true (.t 55) (.t 63)), []⟩,
    ⟨(some 65), none, .q (.pick (.t 54) (.v (.bool true)) (.t 64)), []⟩,
    ⟨(some 66), none, .q (.mv (.t 65)), []⟩,
    ⟨(some 67), (some (66, false)), .q (.mv (.t 14)), []⟩,
    ⟨(some 68), (some (66, false)), .q (.mv (.t 67)), []⟩,
    ⟨(some 69), (some (68, true)), .q (.ld (some 4) (.t 13)), []⟩,
    ⟨(some 70), (some (68, true)), .q (.ld (some 4) (.t 11)), []⟩,
    ⟨(some 71), (some (68, true)), .q (.eqs true [(0, 0), (1, 0), (2, 1), (3, 1)] (.t 69) (.t 70)), []⟩,
    ⟨(some 72), (some (66, false)), .q (.pick (.t 68) (.t 71) (.v (.bool false))), []⟩,
    ⟨(some 73), none, .q (.pick (.t 66) (.v (.bool true)) (.t 72)), []⟩,
    ⟨(some 74), none, .q (.mv (.t 73)), []⟩,
    ⟨(some 75), (some (74, false)), .q (.mv (.t 14)), []⟩,
    ⟨(some 76), (some (74, false)), .q (.un .not (.t 75)), []⟩,
    ⟨(some 77), (some (74, false)), .q (.mv (.t 76)), []⟩,
    ⟨(some 78), (some (77, true)), .q (.ld (some 4) (.t 13)), []⟩,
    ⟨(some 79), (some (77, true)), .q (.build [(.int .i64 0), (.int .i64 0), (.bool false), (.bool false)] []), []⟩,
    ⟨(some 80), (some (77, true)), .q (.eqs true [(0, 0), (1, 0), (2, 1), (3, 1)] (.t 78) (.t 79)), []⟩,
    ⟨(some 81), (some (74, false)), .q (.pick (.t 77) (.t 80) (.v (.bool false))), []⟩,
    ⟨(some 82), none, .q (.pick (.t 74) (.v (.bool true)) (.t 81)), []⟩]
def c4_6 : ACode := .ops [
    ⟨(some 8), none, .q (.mv (.v (.bool false))), []⟩]
def c4_7 : ACode := .seq c4_6 .ret
def c4_8 : ACode := .cond (.t 82) c4_7 .skip
def c4_9 : ACode := .seq c4_5 c4_8
def c4_10 : ACode := .ops [
    ⟨(some 84), none, .q (.mv (.t 0)), []⟩,
    ⟨(some 85), none, .e (.call 13 [(.t 84)]), []⟩,
    ⟨(some 83), none, .q (.mv (.t 85)), []⟩,
    ⟨(some 86), none, .q (.ext 0 (.t 83)), []⟩,
    ⟨(some 87), none, .q (.ext 1 (.t 83)), []⟩,
    ⟨(some 15), none, .e (.alloc [(.int .i64 0), (.int .i64 0), (.bool false), (.bool false), (.int .i64 0), (.int .i64 0), (.bool false), (.bool false)]), []⟩,
    ⟨none, none, .e (.store 8 (.t 15) (.t 86)), []⟩,
    ⟨(some 16), none, .q (.mv (.t 87)), []⟩]
def c4_11 : ACode := .ops [
    ⟨(some 88), none, .q (.build [(.int .i64 0), (.int .i64 0), (.bool false), (.bool false), (.int .i64 0), (.int .i64 0), (.bool false), (.bool false)] []), []⟩,
    ⟨(some 17), none, .e (.alloc [(.int .i64 0), (.int .i64 0), (.bool false), (.bool false), (.int .i64 0), (.int .i64 0), (.bool false), (.bool false)]), []⟩,
    ⟨none, none, .e (.store 8 (.t 17) (.t 88)), []⟩]
def c4_12 : ACode := .ops [
    ⟨(some 89), none, .q (.mv (.t 12)), []⟩,
    ⟨(some 90), none, .q (.bin .gtr (.t 89) (.v (.int .i64 0))), []⟩,
    ⟨(some 91), none, .q (.mv (.t 90)), []⟩,
    ⟨(some 92), (some (91, true)), .q (.mv (.t 12)), []⟩,
    ⟨(some 93), (some (91, true)), .q (.mv (.t 0)), []⟩,
    ⟨(some 94), (some (91, true)), .q (.lenS (.t 93)), []⟩,
    ⟨(some 95), (some (91, true)), .q (.bin .eql (.t 92) (.t 94)), []⟩,
    ⟨(some 96), none, .q (.pick (.t 91) (.t 95) (.v (.bool false))), []⟩,
    ⟨(some 18), none, .q (.mv (.t 96)), []⟩]
def c4_13 : ACode := .ops [
    ⟨(some 97), none, .q (.mv (.t 18)), []⟩]
def c4_14 : ACode := .ops [
    ⟨(some 98), none, .q (.ld (some 4) (.t 9)), []⟩,
    ⟨(some 99), none, .q (.ld (some 4) (.t 9)), []⟩,
    ⟨(some 100), none, .q (.build [(.int .i64 0), (.int .i64 0), (.bool false), (.bool false), (.int .i64 0), (.int .i64 0), (.bool false), (.bool false)] [(0, 4, (.t 98)), (4, 4, (.t 99))]), []⟩,
    ⟨none, none, .e (.store 8 (.t 17) (.t 100)), []⟩]
def c4_15 : ACode := .cond (.t 97) c4_14 .skip
def c4_16 : ACode := .seq c4_13 c4_15
def c4_17 : ACode := .ops [
    ⟨(some 101), none, .q (.mv (.t 12)), []⟩,
    ⟨(some 102), none, .q (.bin .gtr (.t 101) (.v (.int .i64 0))), []⟩,
    ⟨(some 103), none, .q (.mv (.t 102)), []⟩,
    ⟨(some 104), (some (103, true)), .q (.mv (.t 12)), []⟩,
    ⟨(some 105), (some (103, true)), .q (.mv (.t 0)), []⟩,
    ⟨(some 106), (some (103, true)), .q (.lenS (.t 105)), []⟩,
    ⟨(some 107), (some (103, true)), .q (.bin .lss (.t 104) (.t 106)), []⟩,
    ⟨(some 108), none, .q (.pick (.t 103) (.t 107) (.v (.bool false))), []⟩,
    ⟨(some 109), none, .q (.mv (.t 108)), []⟩,
    ⟨(some 110), (some (109, true)), .q (.mv (.t 0)), []⟩,
    ⟨(some 111), (some (109, true)), .q (.mv (.t 12)), []⟩,
    ⟨(some 112), (some (109, true)), .q (.idx (.t 110) (.t 111)), []⟩,
    ⟨(some 113), (some (109, true)), .q (.bin .eql (.t 112) (.v (.int .u8 58))), []⟩,
    ⟨(some 114), none, .q (.pick (.t 109) (.t 113) (.v (.bool false))), []⟩]
def c4_18 : ACode := .ops [
    ⟨(some 116), none, .q (.mv (.t 0)), []⟩,
    ⟨(some 117), none, .q (.mv (.t 12)), []⟩,
    ⟨(some 118), none, .q (.bin .add (.t 117) (.v (.int .i64 1))), []⟩,
    ⟨(some 119), none, .q (.slfrom (true, 0) (.t 116) (.t 118)), []⟩,
    ⟨(some 120), none, .e (.call 17 [(.t 119)]), []⟩,
    ⟨(some 115), none, .q (.mv (.t 120)), []⟩,
    ⟨(some 121), none, .q (.ext 0 (.t 115)), []⟩,
    ⟨(some 122), none, .q (.ext 1 (.t 115)), []⟩,
    ⟨(some 19), none, .e (.alloc [(.int .i64 0), (.int .i64 0), (.bool false), (.bool false)]), []⟩,
    ⟨none, none, .e (.store 4 (.t 19) (.t 121)), []⟩,
    ⟨(some 20), none, .q (.mv (.t 122)), []⟩]
def c4_19 : ACode := .ops [
    ⟨(some 123), none, .q (.mv (.t 20)), []⟩,
    ⟨(some 124), none, .q (.bin .gtr (.t 123) (.v (.int .i64 0))), []⟩,
    ⟨(some 125), none, .q (.mv (.t 124)), []⟩,
    ⟨(some 126), (some (125, true)), .q (.mv (.t 20)), []⟩,
    ⟨(some 127), (some (125, true)), .q (.mv (.t 0)), []⟩,
    ⟨(some 128), (some (125, true)), .q (.lenS (.t 127)), []⟩,
    ⟨(some 129), (some (125, true)), .q (.mv (.t 12)), []⟩,
    ⟨(some 130), (some (125, true)), .q (.bin .sub (.t 128) (.t 129)), []⟩,
    ⟨(some 131), (some (125, true)), .q (.bin .sub (.t 130) (.v (.int .i64 1))), []⟩,
    ⟨(some 132), (some (125, true)), .q (.bin .eql (.t 126) (.t 131)), []⟩,
    ⟨(some 133), none, .q (.pick (.t 125) (.t 132) (.v (.bool false))), []⟩]
def c4_20 : ACode := .ops [
    ⟨(some 134), none, .q (.ld (some 4) (.t 9)), []⟩,
    ⟨(some 135), none, .q (.ld (some 4) (.t 19)), []⟩,
    ⟨(some 136), none, .q (.build [(.int .i64 0), (.int .i64 0), (.bool false), (.bool false), (.int .i64 0), (.int .i64 0), (.bool false), (.bool false)] [(0, 4, (.t 134)), (4, 4, (.t 135))]), []⟩,
    ⟨none, none, .e (.store 8 (.t 17) (.t 136)), []⟩]
def c4_21 : ACode := .ops [
    ⟨(some 18), none, .q (.mv (.v (.bool true))), []⟩]
def c4_22 : ACode := .seq c4_20 c4_21
def c4_23 : ACode := .cond (.t 133) c4_22 .skip
def c4_24 : ACode := .seq c4_19 c4_23
def c4_25 : ACode := .seq c4_18 c4_24
def c4_26 : ACode := .cond (.t 114) c4_25 .skip
def c4_27 : ACode := .seq c4_17 c4_26
def c4_28 : ACode := .ops [
    ⟨(some 137), none, .q (.ld (some 8) (.t 15)), []⟩,
    ⟨(some 138), none, .q (.ld (some 8) (.t 17)), []⟩,
    ⟨(some 139), none, .q (.eqs true [(0, 0), (1, 0), (2, 1), (3, 1), (4, 0), (5, 0), (6, 1), (7, 1)] (.t 137) (.t 138)), []⟩,
    ⟨(some 140), none, .q (.mv (.t 139)), []⟩,
    ⟨(some 141), (some (140, false)), .q (.mv (.t 16)), []⟩,
    ⟨(some 142), (some (140, false)), .q (.mv (.t 18)), []⟩,
    ⟨(some 143), (some (140, false)), .q (.eq .b true (.t 141) (.t 142)), []⟩,
    ⟨(some 144), none, .q (.pick (.t 140) (.v (.bool true)) (.t 143)), []⟩,
    ⟨(some 145), none, .q (.mv (.t 144)), []⟩,
    ⟨(some 146), (some (145, false)), .q (.ld (some 4) (.t 5)), []⟩,
    ⟨(some 148), (some (145, false)), .q (.ld (some 4) (.t 5)), []⟩,
    ⟨(some 147), (some (145, false)), .e (.call 9 [(.t 146)]), [⟨(some (145, false)), .ld (some 4) (.t 5), 148⟩]⟩,
    ⟨(some 149), (some (145, false)), .e (.call 18 [(.t 148)]), []⟩,
    ⟨(some 150), (some (145, false)), .q (.eq .b true (.t 147) (.t 149)), []⟩,
    ⟨(some 151), none, .q (.pick (.t 145) (.v (.bool true)) (.t 150)), []⟩]
def c4_29 : ACode := .ops [
    ⟨(some 8), none, .q (.mv (.v (.bool false))), []⟩]
def c4_30 : ACode := .seq c4_29 .ret
def c4_31 : ACode := .cond (.t 151) c4_30 .skip
def c4_32 : ACode := .seq c4_28 c4_31
def c4_33 : ACode := .ops [
    ⟨(some 152), none, .q (.ld (some 4) (.t 5)), []⟩,
    ⟨(some 153), none, .e (.call 9 [(.t 152)]), []⟩,
    ⟨(some 154), none, .q (.un .not (.t 153)), []⟩]
def c4_34 : ACode := .ops [
    ⟨(some 8), none, .q (.mv (.v (.bool true))), []⟩]
def c4_35 : ACode := .seq c4_34 .ret
def c4_36 : ACode := .cond (.t 154) c4_35 .skip
def c4_37 : ACode := .seq c4_33 c4_36
def c4_38 : ACode := .ops [
    ⟨(some 156), none, .q (.ld (some 4) (.t 5)), []⟩,
    ⟨(some 157), none, .q (.mv (.t 2)), []⟩,
    ⟨(some 158), none, .q (.mv (.t 3)), []⟩,
    ⟨(some 159), none, .e (.call 19 [(.t 156), (.t 157), (.t 158)]), []⟩,
    ⟨(some 155), none, .q (.mv (.t 159)), []⟩,
    ⟨(some 160), none, .q (.ext 0 (.t 155)), []⟩,
    ⟨(some 161), none, .q (.ext 1 (.t 155)), []⟩,
    ⟨(some 21), none, .e (.alloc [(.int .i64 0), (.int .i64 0), (.bool false), (.bool false)]), []⟩,
    ⟨none, none, .e (.store 4 (.t 21) (.t 160)), []⟩,
    ⟨(some 22), none, .q (.mv (.t 161)), []⟩]
def c4_39 : ACode := .ops [
    ⟨(some 163), none, .q (.ld (some 4) (.t 5)), []⟩,
    ⟨(some 164), none, .q (.mv (.t 2)), []⟩,
    ⟨(some 165), none, .q (.mv (.t 3)), []⟩,
    ⟨(some 166), none, .e (.call 20 [(.t 163), (.t 164), (.t 165)]), []⟩,
    ⟨(some 162), none, .q (.mv (.t 166)), []⟩,
    ⟨(some 167), none, .q (.ext 0 (.t 162)), []⟩,
    ⟨(some 168), none, .q (.ext 1 (.t 162)), []⟩,
    ⟨(some 23), none, .e (.alloc [(.int .i64 0), (.int .i64 0), (.bool false), (.bool false)]), []⟩,
    ⟨none, none, .e (.store 4 (.t 23) (.t 167)), []⟩,
    ⟨(some 24), none, .q (.mv (.t 168)), []⟩]
def c4_40 : ACode := .ops [
    ⟨(some 169), none, .q (.ld (some 4) (.t 5)), []⟩,
    ⟨(some 171), none, .q (.ld (some 4) (.t 5)), []⟩,
    ⟨(some 170), none, .e (.call 12 [(.t 169)]), [⟨none, .ld (some 4) (.t 5), 171⟩]⟩,
    ⟨(some 172), none, .e (.call 21 [(.t 171)]), []⟩,
    ⟨(some 173), none, .q (.bin .eql (.t 170) (.t 172)), []⟩,
    ⟨(some 174), none, .q (.mv (.t 173)), []⟩,
    ⟨(some 175), (some (174, true)), .q (.ld (some 4) (.t 21)), []⟩,
    ⟨(some 176), (some (174, true)), .q (.ld (some 4) (.t 23)), []⟩,
    ⟨(some 177), (some (174, true)), .q (.eqs false [(0, 0), (1, 0), (2, 1), (3, 1)] (.t 175) (.t 176)), []⟩,
    ⟨(some 178), none, .q (.pick (.t 174) (.t 177) (.v (.bool false))), []⟩,
    ⟨(some 179), none, .q (.mv (.t 178)), []⟩,
    ⟨(some 180), (some (179, true)), .q (.mv (.t 22)), []⟩,
    ⟨(some 181), (some (179, true)), .q (.mv (.t 24)), []⟩,
    ⟨(some 182), (some (179, true)), .q (.eq .b false (.t 180) (.t 181)), []⟩,
    ⟨(some 183), none, .q (.pick (.t 179) (.t 182) (.v (.bool false))), []⟩,
    ⟨(some 184), none, .q (.mv (.t 183)), []⟩,
    ⟨(some 185), (some (184, true)), .q (.ld (some 4) (.t 5)), []⟩,
    ⟨(some 187), (some (184, true)), .q (.fa 0 (.t 5)), []⟩,
    ⟨(some 188), (some (184, true)), .q (.ld none (.t 187)), []⟩,
    ⟨(some 189), (some (184, true)), .q (.fa 1 (.t 5)), []⟩,
    ⟨(some 190), (some (184, true)), .q (.ld none (.t 189)), []⟩,
    ⟨(some 191), (some (184, true)), .q (.build [(.int .i64 0), (.int .i64 0), (.int .i64 0), (.int .i64 0)] [(0, 1, (.t 188)), (1, 1, (.t 190)), (2, 1, (.v (.int .i64 1))), (3, 1, (.v (.int .i64 1)))]), []⟩,
    ⟨(some 186), (some (184, true)), .e (.call 22 [(.t 185)]), [⟨(some (184, true)), .ld none (.t 187), 188⟩, ⟨(some (184, true)), .ld none (.t 189), 190⟩]⟩,
    ⟨(some 192), (some (184, true)), .q (.eqs false [(0, 0), (1, 0), (2, 0), (3, 0)] (.t 186) (.t 191)), []⟩,
    ⟨(some 193), none, .q (.pick (.t 184) (.t 192) (.v (.bool false))), []⟩,
    ⟨(some 8), none, .q (.mv (.t 193)), []⟩]
def c4_41 : ACode := .seq c4_40 .ret
def c4_42 : ACode := .seq c4_39 c4_41
def c4_43 : ACode := .seq c4_38 c4_42
def c4_44 : ACode := .seq c4_37 c4_43
def c4_45 : ACode := .seq c4_32 c4_44
def c4_46 : ACode := .seq c4_27 c4_45
def c4_47 : ACode := .seq c4_16 c4_46
def c4_48 : ACode := .seq c4_12 c4_47
def c4_49 : ACode := .seq c4_11 c4_48
def c4_50 : ACode := .seq c4_10 c4_49
def c4_51 : ACode := .seq c4_9 c4_50
def c4_52 : ACode := .seq c4_4 c4_51
def c4_53 : ACode := .seq c4_3 c4_52
def c4_54 : ACode := .seq c4_2 c4_53
def c4_55 : ACode := .seq c4_1 c4_54
def c4_56 : ACode := .seq c4_0 c4_55
@[go_sem] theorem c4_0_wp (P : Program) (Q : APost) (a : AFr) (σ : ASt) : c4_0.wp P Q a σ = ACode.wp P (.ops [
    ⟨(some 5), none, .e (.box (.t 1)), []⟩,
    ⟨(some 8), none, .q (.mv (.v (.bool false))), []⟩]) Q a σ := id rfl
@[go_sem] theorem c4_1_wp (P : Program) (Q : APost) (a : AFr) (σ : ASt) : c4_1.wp P Q a σ = ACode.wp P (.ops [
    ⟨(some 25), none, .q (.mv (.t 0)), []⟩,
    ⟨(some 26), none, .e (.call 15 [(.t 25), (.v (.int .i64 30))]), []⟩,
    ⟨(some 0), none, .q (.mv (.t 26)), []⟩]) Q a σ := id rfl
@[go_sem] theorem c4_2_wp (P : Program) (Q : APost) (a : AFr) (σ : ASt) : c4_2.wp P Q a σ = ACode.wp P (.ops [
    ⟨(some 28), none, .q (.mv (.t 0)), []⟩,
    ⟨(some 29), none, .e (.call 16 [(.t 28)]), []⟩,
    ⟨(some 27), none, .q (.mv (.t 29)), []⟩,
    ⟨(some 30), none, .q (.ext 0 (.t 27)), []⟩,
    ⟨(some 31), none, .q (.ext 1 (.t 27)), []⟩,
    ⟨(some 9), none, .e (.alloc [(.int .i64 0), (.int .i64 0), (.bool false), (.bool false)]), []⟩,
    ⟨none, none, .e (.store 4 (.t 9) (.t 30)), []⟩,
    ⟨(some 10), none, .q (.mv (.t 31)), []⟩]) Q a σ := id rfl
@[go_sem] theorem c4_3_wp (P : Program) (Q : APost) (a : AFr) (σ : ASt) : c4_3.wp P Q a σ = ACode.wp P (.ops [
    ⟨(some 33), none, .q (.mv (.t 0)), []⟩,
    ⟨(some 34), none, .e (.call 17 [(.t 33)]), []⟩,
    ⟨(some 32), none, .q (.mv (.t 34)), []⟩,
    ⟨(some 35), none, .q (.ext 0 (.t 32)), []⟩,
    ⟨(some 36), none, .q (.ext 1 (.t 32)), []⟩,
    ⟨(some 11), none, .e (.alloc [(.int .i64 0), (.int .i64 0), (.bool false), (.bool false)]), []⟩,
    ⟨none, none, .e (.store 4 (.t 11) (.t 35)), []⟩,
    ⟨(some 12), none, .q (.mv (.t 36)), []⟩]) Q a σ := id rfl
@[go_sem] theorem c4_4_wp (P : Program) (Q : APost) (a : AFr) (σ : ASt) : c4_4.wp P Q a σ = ACode.wp P (.ops [
    ⟨(some 38), none, .q (.mv (.t 0)), []⟩,
    ⟨(some 39), none, .e (.call 11 [(.t 38)]), []⟩,
    ⟨(some 37), none, .q (.mv (.t 39)), []⟩,
    ⟨(some 40), none, .q (.ext 0 (.t 37)), []⟩,
    ⟨(some 41), none, .q (.ext 1 (.t 37)), []⟩,
    ⟨(some 13), none, .e (.alloc [(.int .i64 0), (.int .i64 0), (.bool false), (.bool false)]), []⟩,
    ⟨none, none, .e (.store 4 (.t 13) (.t 40)), []⟩,
    ⟨(some 14), none, .q (.mv (.t 41)), []⟩]) Q a σ := id rfl
@[go_sem] theorem c4_5_wp (P : Program) (Q : APost) (a : AFr) (σ : ASt) : c4_5.wp P Q a σ = ACode.wp P (.ops [
    ⟨(some 42), none, .e (.call 10 []), []⟩,
    ⟨(some 43), none, .q (.un .not (.t 42)), []⟩,
    ⟨(some 44), none, .q (.mv (.t 43)), []⟩,
    ⟨(some 45), (some (44, false)), .q (.ld (some 4) (.t 9)), []⟩,
    ⟨(some 46), (some (44, false)), .q (.ld (some 4) (.t 11)), []⟩,
    ⟨(some 47), (some (44, false)), .q (.eqs true [(0, 0), (1, 0), (2, 1), (3, 1)] (.t 45) (.t 46)), []⟩,
    ⟨(some 48), none, .q (.pick (.t 44) (.v (.bool true)) (.t 47)), []⟩,
    ⟨(some 49), none, .q (.mv (.t 48)), []⟩,
    ⟨(some 50), (some (49, false)), .q (.mv (.t 10)), []⟩,
    ⟨(some 51), (some (49, false)), .q (.mv (.t 12)), []⟩,
    ⟨(some 52), (some (49, false)), .q (.bin .neq (.t 50) (.t 51)), []⟩,
    ⟨(some 53), none, .q (.pick (.t 49) (.v (.bool true)) (.t 52)), []⟩,
    ⟨(some 54), none, .q (.mv (.t 53)), []⟩,
    ⟨(some 55), (some (54, false)), .q (.mv (.t 14)), []⟩,
    ⟨(some 56), (some (54, false)), .q (.mv (.t 12)), []⟩,
    ⟨(some 57), (some (54, false)), .q (.bin .gtr (.t 56) (.v (.int .i64 0))), []⟩,
    ⟨(some 58), (some (54, false)), .q (.mv (.t 57)), []⟩,
    ⟨(some 59), (some (58, true)), .q (.mv (.t 12)), []⟩,
    ⟨(some 60), (some (58, true)), .q (.mv (.t 0)), []⟩,
    ⟨(some 61), (some (58, true)), .q (.lenS (.t 60)), []⟩,
    ⟨(some 62), (some (58, true)), .q (.bin .eql (.t 59) (.t 61)), []⟩,
    ⟨(some 63), (some (54, false)), .q (.pick (.t 58) (.t 62) (.v (.bool false))), []⟩,
    ⟨(some 64), (some (54, false)), .q (.eq .b true (.t 55) (.t 63)), []⟩,
    ⟨(some 65), none, .q (.pick (.t 54) (.v (.bool true)) (.t 64)), []⟩,
    ⟨(some 66), none, .q (.mv (.t 65)), []⟩,
    ⟨(some 67), (some (66, false)), .q (.mv (.t 14)), []⟩,
    ⟨(some 68), (some (66, false)), .q (.mv (.t 67)), []⟩,
    ⟨(some 69), (some (68, true)), .q (.ld (some 4) (.t 13)), []⟩,
    ⟨(some 70), (some (68, true)), .q (.ld (some 4) (.t 11)), []⟩,
    ⟨(some 71), (some (68, true)), .q (.eqs true [(0, 0), (1, 0), (2, 1), (3, 1)] (.t 69) (.t 70)), []⟩,
    ⟨(some 72), (some (66, false)), .q (.pick (.t 68) (.t 71) (.v (.bool false))), []⟩,
    ⟨(some 73), none, .q (.pick (.t 66) (.v (.bool true)) (.t 72)), []⟩,
    ⟨(some 74), none, .q (.mv (.t 73)), []⟩,
    ⟨(some 75), (some (74, false)), .q (.mv (.t 14)), []⟩,
    ⟨(some 76), (some (74, false)), .q (.un .not (.t 75)), []⟩,
    ⟨(some 77), (some (74, false)), .q (.mv (.t 76)), []⟩,
    ⟨(some 78), (some (77, true)), .q (.ld (some 4) (.t 13)), []⟩,
    ⟨(some 79), (some (77, true)), .q (.build [(.int .i64 0), (.int .i64 0), (.bool false), (.bool false)] []), []⟩,
    ⟨(some 80), (some (77, true)), .q (.eqs true [(0, 0), (1, 0), (2, 1), (3, 1)] (.t 78) (.t 79)), []⟩,
    ⟨(some 81), (some (74, false)), .q (.pick (.t 77) (.t 80) (.v (.bool false))), []⟩,
    ⟨(some 82), none, .q (.pick (.t 74) (.v (.bool true)) (.t 81)), []⟩]) Q a σ := id rfl
@[go_sem] theorem c4_6_wp (P : Program) (Q : APost) (a : AFr) (σ : ASt) : c4_6.wp P Q a σ = ACode.wp P (.ops [
    ⟨(some 8), none, .q (.mv (.v (.bool false))), []⟩]) Q a σ := id rfl
@[go_sem] theorem c4_7_wp (P : Program) (Q : APost) (a : AFr) (σ : ASt) : c4_7.wp P Q a σ = ACode.wp P (.seq c4_6 .ret) Q a σ := id rfl
@[go_sem] theorem c4_8_wp (P : Program) (Q : APost) (a : AFr) (σ : ASt) : c4_8.wp P Q a σ = ACode.wp P (.cond (.t 82) c4_7 .skip) Q a σ := id rfl
@[go_sem] theorem c4_9_wp (P : Program) (Q : APost) (a : AFr) (σ : ASt) : c4_9.wp P Q a σ = ACode.wp P (.seq c4_5 c4_8) Q a σ := id rfl
@[go_sem] theorem c4_10_wp (P : Program) (Q : APost) (a : AFr) (σ : ASt) : c4_10.wp P Q a σ = ACode.wp P (.ops [
    ⟨(some 84), none, .q (.mv (.t 0)), []⟩,
    ⟨(some 85), none, .e (.call 13 [(.t 84)]), []⟩,
    ⟨(some 83), none, .q (.mv (.t 85)), []⟩,
    ⟨(some 86), none, .q (.ext 0 (.t 83)), []⟩,
    ⟨(some 87), none, .q (.ext 1 (.t 83)), []⟩,
    ⟨(some 15), none, .e (.alloc [(.int .i64 0), (.int .i64 0), (.bool false), (.bool false), (.int .i64 0), (.int .i64 0), (.bool false), (.bool false)]), []⟩,
    ⟨none, none, .e (.store 8 (.t 15) (.t 86)), []⟩,
    ⟨(some 16), none, .q (.mv (.t 87)), []⟩]) Q a σ := id rfl
@[go_sem] theorem c4_11_wp (P : Program) (Q : APost) (a : AFr) (σ : ASt) : c4_11.wp P Q a σ = ACode.wp P (.ops [
    ⟨(some 88), none, .q (.build [(.int .i64 0), (.int .i64 0), (.bool false), (.bool false), (.int .i64 0), (.int .i64 0), (.bool false), (.bool false)] []), []⟩,
    ⟨(some 17), none, .e (.alloc [(.int .i64 0), (.int .i64 0), (.bool false), (.bool false), (.int .i64 0), (.int .i64 0), (.bool false), (.bool false)]), []⟩,
    ⟨none, none, .e (.store 8 (.t 17) (.t 88)), []⟩]) Q a σ := id rfl
@[go_sem] theorem c4_12_wp (P : Program) (Q : APost) (a : AFr) (σ : ASt) : c4_12.wp P Q a σ = ACode.wp P (.ops [
    ⟨(some 89), none, .q (.mv (.t 12)), []⟩,
    ⟨(some 90), none, .q (.bin .gtr (.t 89) (.v (.int .i64 0))), []⟩,
    ⟨(some 91), none, .q (.mv (.t 90)), []⟩,
    ⟨(some 92), (some (91, true)), .q (.mv (.t 12)), []⟩,
    ⟨(some 93), (some (91, true)), .q (.mv (.t 0)), []⟩,
    ⟨(some 94), (some (91, true)), .q (.lenS (.t 93)), []⟩,
    ⟨(some 95), (some (91, true)), .q (.bin .eql (.t 92) (.t 94)), []⟩,
    ⟨(some 96), none, .q (.pick (.t 91) (.t 95) (.v (.bool false))), []⟩,
    ⟨(some 18), none, .q (.mv (.t 96)), []⟩]) Q a σ := id rfl
@[go_sem] theorem c4_13_wp (P : Program) (Q : APost) (a : AFr) (σ : ASt) : c4_13.wp P Q a σ = ACode.wp P (.ops [
    ⟨(some 97), none, .q (.mv (.t 18)), []⟩]) Q a σ := id rfl
@[go_sem] theorem c4_14_wp (P : Program) (Q : APost) (a : AFr) (σ : ASt) : c4_14.wp P Q a σ = ACode.wp P (.ops [
    ⟨(some 98), none, .q (.ld (some 4) (.t 9)), []⟩,
    ⟨(some 99), none, .q (.ld (some 4) (.t 9)), []⟩,
    ⟨(some 100), none, .q (.build [(.int .i64 0), (.int .i64 0), (.bool false), (.bool false), (.int .i64 0), (.int .i64 0), (.bool false), (.bool false)] [(0, 4, (.t 98)), (4, 4, (.t 99))]), []⟩,
    ⟨none, none, .e (.store 8 (.t 17) (.t 100)), []⟩]) Q a σ := id rfl
@[go_sem] theorem c4_15_wp (P : Program) (Q : APost) (a : AFr) (σ : ASt) : c4_15.wp P Q a σ = ACode.wp P (.cond (.t 97) c4_14 .skip) Q a σ := id rfl
@[go_sem] theorem c4_16_wp (P : Program) (Q : APost) (a : AFr) (σ : ASt) : c4_16.wp P Q a σ = ACode.wp P (.seq c4_13 c4_15) Q a σ := id rfl
@[go_sem] theorem c4_17_wp (P : Program) (Q : APost) (a : AFr) (σ : ASt) : c4_17.wp P Q a σ = ACode.wp P (.ops [
    ⟨(some 101), none, .q (.mv (.t 12)), []⟩,
    ⟨(some 102), none, .q (.bin .gtr (.t 101) (.v (.int .i64 0))), []⟩,
    ⟨(some 103), none, .q (.mv (.t 102)), []⟩,
    ⟨(some 104), (some (103, true)), .q (.mv (.t 12)), []⟩,
    ⟨(some 105), (some (103, true)), .q (.mv (.t 0)), []⟩,
    ⟨(some 106), (some (103, true)), .q (.lenS (.t 105)), []⟩,
    ⟨(some 107), (some (103, true)), .q (.bin .lss (.t 104) (.t 106)), []⟩,
    ⟨(some 108), none, .q (.pick (.t 103) (.t 107) (.v (.bool false))), []⟩,
    ⟨(some 109), none, .q (.mv (.t 108)), []⟩,
    ⟨(some 110), (some (109, true)), .q (.mv (.t 0)), []⟩,
    ⟨(some 111), (some (109, true)), .q (.mv (.t 12)), []⟩,
    ⟨(some 112), (some (109, true)), .q (.idx (.t 110) (.t 111)), []⟩,
    ⟨(some 113), (some (109, true)), .q (.bin .eql (.t 112) (.v (.int .u8 58))), []⟩,
    ⟨(some 114), none, .q (.pick (.t 109) (.t 113) (.v (.bool false))), []⟩]) Q a σ := id rfl
@[go_sem] theorem c4_18_wp (P : Program) (Q : APost) (a : AFr) (σ : ASt) : c4_18.wp P Q a σ = ACode.wp P (.ops [
    ⟨(some 116), none, .q (.mv (.t 0)), []⟩,
    ⟨(some 117), none, .q (.mv (.t 12)), []⟩,
    ⟨(some 118), none, .q (.bin .add (.t 117) (.v (.int .i64 1))), []⟩,
    ⟨(some 119), none, .q (.slfrom (true, 0) (.t 116) (.t 118)), []⟩,
    ⟨(some 120), none, .e (.call 17 [(.t 119)]), []⟩,
    ⟨(some 115), none, .q (.mv (.t 120)), []⟩,
    ⟨(some 121), none, .q (.ext 0 (.t 115)), []⟩,
    ⟨(some 122), none, .q (.ext 1 (.t 115)), []⟩,
    ⟨(some 19), none, .e (.alloc [(.int .i64 0), (.int .i64 0), (.bool false), (.bool false)]), []⟩,
    ⟨none, none, .e (.store 4 (.t 19) (.t 121)), []⟩,
    ⟨(some 20), none, .q (.mv (.t 122)), []⟩]) Q a σ := id rfl
@[go_sem] theorem c4_19_wp (P : Program) (Q : APost) (a : AFr) (σ : ASt) : c4_19.wp P Q a σ = ACode.wp P (.ops [
    ⟨(some 123), none, .q (.mv (.t 20)), []⟩,
    ⟨(some 124), none, .q (.bin .gtr (.t 123) (.v (.int .i64 0))), []⟩,
    ⟨(some 125), none, .q (.mv (.t 124)), []⟩,
    ⟨(some 126), (some (125, true)), .q (.mv (.t 20)), []⟩,
    ⟨(some 127), (some (125, true)), .q (.mv (.t 0)), []⟩,
    ⟨(some 128), (some (125, true)), .q (.lenS (.t 127)), []⟩,
    ⟨(some 129), (some (125, true)), .q (.mv (.t 12)), []⟩,
    ⟨(some 130), (some (125, true)), .q (.bin .sub (.t 128) (.t 129)), []⟩,
    ⟨(some 131), (some (125, true)), .q (.bin .sub (.t 130) (.v (.int .i64 1))), []⟩,
    ⟨(some 132), (some (125, true)), .q (.bin .eql (.t 126) (.t 131)), []⟩,
    ⟨(some 133), none, .q (.pick (.t 125) (.t 132) (.v (.bool false))), []⟩]) Q a σ := id rfl
@[go_sem] theorem c4_20_wp (P : Program) (Q : APost) (a : AFr) (σ : ASt) : c4_20.wp P Q a σ = ACode.wp P (.ops [
    ⟨(some 134), none, .q (.ld (some 4) (.t 9)), []⟩,
    ⟨(some 135), none, .q (.ld (some 4) (.t 19)), []⟩,
    ⟨(some 136), none, .q (.build [(.int .i64 0), (.int .i64 0), (.bool false), (.bool false), (.int .i64 0), (.int .i64 0), (.bool false), (.bool false)] [(0, 4, (.t 134)), (4, 4, (.t 135))]), []⟩,
    ⟨none, none, .e (.store 8 (.t 17) (.t 136)), []⟩]) Q a σ := id rfl
@[go_sem] theorem c4_21_wp (P : Program) (Q : APost) (a : AFr) (σ : ASt) : c4_21.wp P Q a σ = ACode.wp P (.ops [
    ⟨(some 18), none, .q (.mv (.v (.bool true))), []⟩]) Q a σ := id rfl
@[go_sem] theorem c4_22_wp (P : Program) (Q : APost) (a : AFr) (σ : ASt) : c4_22.wp P Q a σ = ACode.wp P (.seq c4_20 c4_21) Q a σ := id rfl
@[go_sem] theorem c4_23_wp (P : Program) (Q : APost) (a : AFr) (σ : ASt) : c4_23.wp P Q a σ = ACode.wp P (.cond (.t 133) c4_22 .skip) Q a σ := id rfl
@[go_sem] theorem c4_24_wp (P : Program) (Q : APost) (a : AFr) (σ : ASt) : c4_24.wp P Q a σ = ACode.wp P (.seq c4_19 c4_23) Q a σ := id rfl
@[go_sem] theorem c4_25_wp (P : Program) (Q : APost) (a : AFr) (σ : ASt) : c4_25.wp P Q a σ = ACode.wp P (.seq c4_18 c4_24) Q a σ := id rfl
@[go_sem] theorem c4_26_wp (P : Program) (Q : APost) (a : AFr) (σ : ASt) : c4_26.wp P Q a σ = ACode.wp P (.cond (.t 114) c4_25 .skip) Q a σ := id rfl
@[go_sem] theorem c4_27_wp (P : Program) (Q : APost) (a : AFr) (σ : ASt) : c4_27.wp P Q a σ = ACode.wp P (.seq c4_17 c4_26) Q a σ := id rfl
@[go_sem] theorem c4_28_wp (P : Program) (Q : APost) (a : AFr) (σ : ASt) : c4_28.wp P Q a σ = ACode.wp P (.ops [
    ⟨(some 137), none, .q (.ld (some 8) (.t 15)), []⟩,
    ⟨(some 138), none, .q (.ld (some 8) (.t 17)), []⟩,
    ⟨(some 139), none, .q (.eqs true [(0, 0), (1, 0), (2, 1), (3, 1), (4, 0), (5, 0), (6, 1), (7, 1)] (.t 137) (.t 138)), []⟩,
    ⟨(some 140), none, .q (.mv (.t 139)), []⟩,
    ⟨(some 141), (some (140, false)), .q (.mv (.t 16)), []⟩,
    ⟨(some 142), (some (140, false)), .q (.mv (.t 18)), []⟩,
    ⟨(some 143), (some (140, false)), .q (.eq .b true (.t 141) (.t 142)), []⟩,
    ⟨(some 144), none, .q (.pick (.t 140) (.v (.bool true)) (.t 143)), []⟩,
    ⟨(some 145), none, .q (.mv (.t 144)), []⟩,
    ⟨(some 146), (some (145, false)), .q (.ld (some 4) (.t 5)), []⟩,
    ⟨(some 148), (some (145, false)), .q (.ld (some 4) (.t 5)), []⟩,
    ⟨(some 147), (some (145, false)), .e (.call 9 [(.t 146)]), [⟨(some (145, false)), .ld (some 4) (.t 5), 148⟩]⟩,
    ⟨(some 149), (some (145, false)), .e (.call 18 [(.t 148)]), []⟩,
    ⟨(some 150), (some (145, false)), .q (.eq .b true (.t 147) (.t 149)), []⟩,
    ⟨(some 151), none, .q (.pick (.t 145) (.v (.bool true)) (.t 150)), []⟩]) Q a σ := id rfl
@[go_sem] theorem c4_29_wp (P : Program) (Q : APost) (a : AFr) (σ : ASt) : c4_29.wp P Q a σ = ACode.wp P (.ops [
    ⟨(some 8), none, .q (.mv (.v (.bool false))), []⟩]) Q a σ := id rfl
@[go_sem] theorem c4_30_wp (P : Program) (Q : APost) (a : AFr) (σ : ASt) : c4_30.wp P Q a σ = ACode.wp P (.seq c4_29 .ret) Q a σ := id rfl
@[go_sem] theorem c4_31_wp (P : Program) (Q : APost) (a : AFr) (σ : ASt) : c4_31.wp P Q a σ = ACode.wp P (.cond (.t 151) c4_30 .skip) Q a σ := id rfl
@[go_sem] theorem c4_32_wp (P : Program) (Q : APost) (a : AFr) (σ : ASt) : c4_32.wp P Q a σ = ACode.wp P (.seq c4_28 c4_31) Q a σ := id rfl
@[go_sem] theorem c4_33_wp (P : Program) (Q : APost) (a : AFr) (σ : ASt) : c4_33.wp P Q a σ = ACode.wp P (.ops [
    ⟨(some 152), none, .q (.ld (some 4) (.t 5)), []⟩,
    ⟨(some 153), none, .e (.call 9 [(.t 152)]), []⟩,
    ⟨(some 154), none, .q (.un .not (.t 153)), []⟩]) Q a σ := id rfl
@[go_sem] theorem c4_34_wp (P : Program) (Q : APost) (a : AFr) (σ : ASt) : c4_34.wp P Q a σ = ACode.wp P (.ops [
    ⟨(some 8), none, .q (.mv (.v (.bool true))), []⟩]) Q a σ := id rfl
@[go_sem] theorem c4_35_wp (P : Program) (Q : APost) (a : AFr) (σ : ASt) : c4_35.wp P Q a σ = ACode.wp P (.seq c4_34 .ret) Q a σ := id rfl
@[go_sem] theorem c4_36_wp (P : Program) (Q : APost) (a : AFr) (σ : ASt) : c4_36.wp P Q a σ = ACode.wp P (.cond (.t 154) c4_35 .skip) Q a σ := id rfl
@[go_sem] theorem c4_37_wp (P : Program) (Q : APost) (a : AFr) (σ : ASt) : c4_37.wp P Q a σ = ACode.wp P (.seq c4_33 c4_36) Q a σ := id rfl
@[go_sem] theorem c4_38_wp (P : Program) (Q : APost) (a : AFr) (σ : ASt) : c4_38.wp P Q a σ = ACode.wp P (.ops [
    ⟨(some 156), none, .q (.ld (some 4) (.t 5)), []⟩,
    ⟨(some 157), none, .q (.mv (.t 2)), []⟩,
    ⟨(some 158), none, .q (.mv (.t 3)), []⟩,
    ⟨(some 159), none, .e (.call 19 [(.t 156), (.t 157), (.t 158)]), []⟩,
    ⟨(some 155), none, .q (.mv (.t 159)), []⟩,
    ⟨(some 160), none, .q (.ext 0 (.t 155)), []⟩,
    ⟨(some 161), none, .q (.ext 1 (.t 155)), []⟩,
    ⟨(some 21), none, .e (.alloc [(.int .i64 0), (.int .i64 0), (.bool false), (.bool false)]), []⟩,
    ⟨none, none, .e (.store 4 (.t 21) (.t 160)), []⟩,
    ⟨(some 22), none, .q (.mv (.t 161)), []⟩]) Q a σ := id rfl
@[go_sem] theorem c4_39_wp (P : Program) (Q : APost) (a : AFr) (σ : ASt) : c4_39.wp P Q a σ = ACode.wp P (.ops [
    ⟨(some 163), none, .q (.ld (some 4) (.t 5)), []⟩,
    ⟨(some 164), none, .q (.mv (.t 2)), []⟩,
    ⟨(some 165), none, .q (.mv (.t 3)), []⟩,
    ⟨(some 166), none, .e (.call 20 [(.t 163), (.t 164), (.t 165)]), []⟩,
    ⟨(some 162), none, .q (.mv (.t 166)), []⟩,
    ⟨(some 167), none, .q (.ext 0 (.t 162)), []⟩,
    ⟨(some 168), none, .q (.ext 1 (.t 162)), []⟩,
    ⟨(some 23), none, .e (.alloc [(.int .i64 0), (.int .i64 0), (.bool false), (.bool false)]), []⟩,
    ⟨none, none, .e (.store 4 (.t 23) (.t 167)), []⟩,
    ⟨(some 24), none, .q (.mv (.t 168)), []⟩]) Q a σ := id rfl
@[go_sem] theorem c4_40_wp (P : Program) (Q : APost) (a : AFr) (σ : ASt) : c4_40.wp P Q a σ = ACode.wp P (.ops [
    ⟨(some 169), none, .q (.ld (some 4) (.t 5)), []⟩,
    ⟨(some 171), none, .q (.ld (some 4) (.t 5)), []⟩,
    ⟨(some 170), none, .e (.call 12 [(.t 169)]), [⟨none, .ld (some 4) (.t 5), 171⟩]⟩,
    ⟨(some 172), none, .e (.call 21 [(.t 171)]), []⟩,
    ⟨(some 173), none, .q (.bin .eql (.t 170) (.t 172)), []⟩,
    ⟨(some 174), none, .q (.mv (.t 173)), []⟩,
    ⟨(some 175), (some (174, true)), .q (.ld (some 4) (.t 21)), []⟩,
    ⟨(some 176), (some (174, true)), .q (.ld (some 4) (.t 23)), []⟩,
    ⟨(some 177), (some (174, true)), .q (.eqs false [(0, 0), (1, 0), (2, 1), (3, 1)] (.t 175) (.t 176)), []⟩,
    ⟨(some 178), none, .q (.pick (.t 174) (.t 177) (.v (.bool false))), []⟩,
    ⟨(some 179), none, .q (.mv (.t 178)), []⟩,
    ⟨(some 180), (some (179, true)), .q (.mv (.t 22)), []⟩,
    ⟨(some 181), (some (179, true)), .q (.mv (.t 24)), []⟩,
    ⟨(some 182), (some (179, true)), .q (.eq .b false (.t 180) (.t 181)), []⟩,
    ⟨(some 183), none, .q (.pick (.t 179) (.t 182) (.v (.bool false))), []⟩,
    ⟨(some 184), none, .q (.mv (.t 183)), []⟩,
    ⟨(some 185), (some (184, true)), .q (.ld (some 4) (.t 5)), []⟩,
    ⟨(some 187), (some (184, true)), .q (.fa 0 (.t 5)), []⟩,
    ⟨(some 188), (some (184, true)), .q (.ld none (.t 187)), []⟩,
    ⟨(some 189), (some (184, true)), .q (.fa 1 (.t 5)), []⟩,
    ⟨(some 190), (some (184, true)), .q (.ld none (.t 189)), []⟩,
    ⟨(some 191), (some (184, true)), .q (.build [(.int .i64 0), (.int .i64 0), (.int .i64 0), (.int .i64 0)] [(0, 1, (.t 188)), (1, 1, (.t 190)), (2, 1, (.v (.int .i64 1))), (3, 1, (.v (.int .i64 1)))]), []⟩,
    ⟨(some 186), (some (184, true)), .e (.call 22 [(.t 185)]), [⟨(some (184, true)), .ld none (.t 187), 188⟩, ⟨(some (184, true)), .ld none (.t 189), 190⟩]⟩,
    ⟨(some 192), (some (184, true)), .q (.eqs false [(0, 0), (1, 0), (2, 0), (3, 0)] (.t 186) (.t 191)), []⟩,
    ⟨(some 193), none, .q (.pick (.t 184) (.t 192) (.v (.bool false))), []⟩,
    ⟨(some 8), none, .q (.mv (.t 193)), []⟩]) Q a σ := id rfl
@[go_sem] theorem c4_41_wp (P : Program) (Q : APost) (a : AFr) (σ : ASt) : c4_41.wp P Q a σ = ACode.wp P (.seq c4_40 .ret) Q a σ := id rfl
@[go_sem] theorem c4_42_wp (P : Program) (Q : APost) (a : AFr) (σ : ASt) : c4_42.wp P Q a σ = ACode.wp P (.seq c4_39 c4_41) Q a σ := id rfl
@[go_sem] theorem c4_43_wp (P : Program) (Q : APost) (a : AFr) (σ : ASt) : c4_43.wp P Q a σ = ACode.wp P (.seq c4_38 c4_42) Q a σ := id rfl
@[go_sem] theorem c4_44_wp (P : Program) (Q : APost) (a : AFr) (σ : ASt) : c4_44.wp P Q a σ = ACode.wp P (.seq c4_37 c4_43) Q a σ := id rfl
@[go_sem] theorem c4_45_wp (P : Program) (Q : APost) (a : AFr) (σ : ASt) : c4_45.wp P Q a σ = ACode.wp P (.seq c4_32 c4_44) Q a σ := id rfl
@[go_sem] theorem c4_46_wp (P : Program) (Q : APost) (a : AFr) (σ : ASt) : c4_46.wp P Q a σ = ACode.wp P (.seq c4_27 c4_45) Q a σ := id rfl
@[go_sem] theorem c4_47_wp (P : Program) (Q : APost) (a : AFr) (σ : ASt) : c4_47.wp P Q a σ = ACode.wp P (.seq c4_16 c4_46) Q a σ := id rfl
@[go_sem] theorem c4_48_wp (P : Program) (Q : APost) (a : AFr) (σ : ASt) : c4_48.wp P Q a σ = ACode.wp P (.seq c4_12 c4_47) Q a σ := id rfl
@[go_sem] theorem c4_49_wp (P : Program) (Q : APost) (a : AFr) (σ : ASt) : c4_49.wp P Q a σ = ACode.wp P (.seq c4_11 c4_48) Q a σ := id rfl
@[go_sem] theorem c4_50_wp (P : Program) (Q : APost) (a : AFr) (σ : ASt) : c4_50.wp P Q a σ = ACode.wp P (.seq c4_10 c4_49) Q a σ := id rfl
@[go_sem] theorem c4_51_wp (P : Program) (Q : APost) (a : AFr) (σ : ASt) : c4_51.wp P Q a σ = ACode.wp P (.seq c4_9 c4_50) Q a σ := id rfl
@[go_sem] theorem c4_52_wp (P : Program) (Q : APost) (a : AFr) (σ : ASt) : c4_52.wp P Q a σ = ACode.wp P (.seq c4_4 c4_51) Q a σ := id rfl
@[go_sem] theorem c4_53_wp (P : Program) (Q : APost) (a : AFr) (σ : ASt) : c4_53.wp P Q a σ = ACode.wp P (.seq c4_3 c4_52) Q a σ := id rfl
@[go_sem] theorem c4_54_wp (P : Program) (Q : APost) (a : AFr) (σ : ASt) : c4_54.wp P Q a σ = ACode.wp P (.seq c4_2 c4_53) Q a σ := id rfl
@[go_sem] theorem c4_55_wp (P : Program) (Q : APost) (a : AFr) (σ : ASt) : c4_55.wp P Q a σ = ACode.wp P (.seq c4_1 c4_54) Q a σ := id rfl
@[go_sem] theorem c4_56_wp (P : Program) (Q : APost) (a : AFr) (σ : ASt) : c4_56.wp P Q a σ = ACode.wp P (.seq c4_0 c4_55) Q a σ := id rfl
def c4 : AFn := ⟨194, [.t 8], c4_56⟩
set_option maxRecDepth 100000 in
theorem c4_ok : compF Tryd.prog Tryd.f4 = some c4 := by kernel_rfl
theorem a4 {args : List AV} {σ : ASt} {R : AV → ASt → Prop} (hl : args.length ≤ 194) (h : c4_56.wp Tryd.prog (RetQ [.t 8] R) (init args) σ) : ACalls Tryd.prog 4 args σ R := acalls_of Tryd.func4 c4_ok hl h

/-! 15: tabular/tabularlaw01.Cut -/
def c15_0 : ACode := .ops [
    ⟨(some 4), none, .q (.mv (.v (.str []))), []⟩]
def c15_1 : ACode := .ops [
    ⟨(some 5), none, .q (.mv (.t 0)), []⟩,
    ⟨(some 6), none, .q (.lenS (.t 5)), []⟩,
    ⟨(some 7), none, .q (.mv (.t 1)), []⟩,
    ⟨(some 8), none, .q (.bin .gtr (.t 6) (.t 7)), []⟩]
def c15_2 : ACode := .ops [
    ⟨(some 9), none, .q (.mv (.t 0)), []⟩,
    ⟨(some 10), none, .q (.mv (.t 1)), []⟩,
    ⟨(some 11), none, .q (.slto (true, 0) (.t 9) (.t 10)), []⟩,
    ⟨(some 4), none, .q (.mv (.t 11)), []⟩]
def c15_3 : ACode := .seq c15_2 .ret
def c15_4 : ACode := .cond (.t 8) c15_3 .skip
def c15_5 : ACode := .seq c15_1 c15_4
def c15_6 : ACode := .ops [
    ⟨(some 12), none, .q (.mv (.t 0)), []⟩,
    ⟨(some 4), none, .q (.mv (.t 12)), []⟩]
def c15_7 : ACode := .seq c15_6 .ret
def c15_8 : ACode := .seq c15_5 c15_7
def c15_9 : ACode := .seq c15_0 c15_8
@[go_sem] theorem c15_0_wp (P : Program) (Q : APost) (a : AFr) (σ : ASt) : c15_0.wp P Q a σ = ACode.wp P (.ops [
    ⟨(some 4), none, .q (.mv (.v (.str []))), []⟩]) Q a σ := id rfl
@[go_sem] theorem c15_1_wp (P : Program) (Q : APost) (a : AFr) (σ : ASt) : c15_1.wp P Q a σ = ACode.wp P (.ops [
    ⟨(some 5), none, .q (.mv (.t 0)), []⟩,
    ⟨(some 6), none, .q (.lenS (.t 5)), []⟩,
    ⟨(some 7), none, .q (.mv (.t 1)), []⟩,
    ⟨(some 8), none, .q (.bin .gtr (.t 6) (.t 7)), []⟩]) Q a σ := id rfl
@[go_sem] theorem c15_2_wp (P : Program) (Q : APost) (a : AFr) (σ : ASt) : c15_2.wp P Q a σ = ACode.wp P (.ops [
    ⟨(some 9), none, .q (.mv (.t 0)), []⟩,
    ⟨(some 10), none, .q (.mv (.t 1)), []⟩,
    ⟨(some 11), none, .q (.slto (true, 0) (.t 9) (.t 10)), []⟩,
    ⟨(some 4), none, .q (.mv (.t 11)), []⟩]) Q a σ := id rfl
@[go_sem] theorem c15_3_wp (P : Program) (Q : APost) (a : AFr) (σ : ASt) : c15_3.wp P Q a σ = ACode.wp P (.seq c15_2 .ret) Q a σ := id rfl
@[go_sem] theorem c15_4_wp (P : Program) (Q : APost) (a : AFr) (σ : ASt) : c15_4.wp P Q a σ = ACode.wp P (.cond (.t 8) c15_3 .skip) Q a σ := id rfl
@[go_sem] theorem c15_5_wp (P : Program) (Q : APost) (a : AFr) (σ : ASt) : c15_5.wp P Q a σ = ACode.wp P (.seq c15_1 c15_4) Q a σ := id rfl
@[go_sem] theorem c15_6_wp (P : Program) (Q : APost) (a : AFr) (σ : ASt) : c15_6.wp P Q a σ = ACode.wp P (.ops [
    ⟨(some 12), none, .q (.mv (.t 0)), []⟩,
    ⟨(some 4), none, .q (.mv (.t 12)), []⟩]) Q a σ := id rfl
@[go_sem] theorem c15_7_wp (P : Program) (Q : APost) (a : AFr) (σ : ASt) : c15_7.wp P Q a σ = ACode.wp P (.seq c15_6 .ret) Q a σ := id rfl
@[go_sem] theorem c15_8_wp (P : Program) (Q : APost) (a : AFr) (σ : ASt) : c15_8.wp P Q a σ = ACode.wp P (.seq c15_5 c15_7) Q a σ := id rfl
@[go_sem] theorem c15_9_wp (P : Program) (Q : APost) (a : AFr) (σ : ASt) : c15_9.wp P Q a σ = ACode.wp P (.seq c15_0 c15_8) Q a σ := id rfl
def c15 : AFn := ⟨13, [.t 4], c15_9⟩
set_option maxRecDepth 100000 in
theorem c15_ok : compF Tryd.prog Tryd.f15 = some c15 := by kernel_rfl
theorem a15 {args : List AV} {σ : ASt} {R : AV → ASt → Prop} (hl : args.length ≤ 13) (h : c15_9.wp Tryd.prog (RetQ [.t 4] R) (init args) σ) : ACalls Tryd.prog 15 args σ R := acalls_of Tryd.func15 c15_ok hl h

/-! 17: tabular/tabularref10.Read -/
def c17_0 : ACode := .ops [
    ⟨(some 2), none, .e (.alloc [(.int .i64 0), (.int .i64 0), (.bool false), (.bool false)]), []⟩,
    ⟨(some 3), none, .q (.mv (.v (.int .i64 0))), []⟩]
def c17_1 : ACode := .ops [
    ⟨(some 12), none, .q (.build [(.int .i64 0), (.int .i64 0), (.bool false), (.bool false)] []), []⟩,
    ⟨(some 4), none, .e (.alloc [(.int .i64 0), (.int .i64 0), (.bool false), (.bool false)]), []⟩,
    ⟨none, none, .e (.store 4 (.t 4) (.t 12)), []⟩]
def c17_2 : ACode := .ops [
    ⟨(some 5), none, .q (.mv (.v (.int .i64 0))), []⟩]
def c17_3 : ACode := .ops [
    ⟨(some 13), none, .q (.mv (.t 0)), []⟩,
    ⟨(some 14), none, .q (.lenS (.t 13)), []⟩,
    ⟨(some 15), none, .q (.bin .gtr (.t 14) (.v (.int .i64 0))), []⟩,
    ⟨(some 16), none, .q (.mv (.t 15)), []⟩,
    ⟨(some 17), (some (16, true)), .q (.mv (.t 0)), []⟩,
    ⟨(some 18), (some (16, true)), .q (.idx (.t 17) (.v (.int .i64 0))), []⟩,
    ⟨(some 19), (some (16, true)), .q (.bin .eql (.t 18) (.v (.int .u8 36))), []⟩,
    ⟨(some 20), none, .q (.pick (.t 16) (.t 19) (.v (.bool false))), []⟩]
def c17_4 : ACode := .ops [
    ⟨(some 21), none, .q (.fa 3 (.t 4)), []⟩,
    ⟨none, none, .e (.store 1 (.t 21) (.v (.bool true))), []⟩]
def c17_5 : ACode := .ops [
    ⟨(some 5), none, .q (.mv (.v (.int .i64 1))), []⟩]
def c17_6 : ACode := .seq c17_4 c17_5
def c17_7 : ACode := .cond (.t 20) c17_6 .skip
def c17_8 : ACode := .seq c17_3 c17_7
def c17_9 : ACode := .ops [
    ⟨(some 6), none, .q (.mv (.v (.str []))), []⟩]
def c17_10 : ACode := .ops [
    ⟨(some 22), none, .q (.mv (.t 5)), []⟩,
    ⟨(some 23), none, .q (.mv (.t 0)), []⟩,
    ⟨(some 24), none, .q (.lenS (.t 23)), []⟩,
    ⟨(some 25), none, .q (.bin .lss (.t 22) (.t 24)), []⟩,
    ⟨(some 26), none, .q (.mv (.t 25)), []⟩,
    ⟨(some 27), (some (26, true)), .q (.mv (.t 0)), []⟩,
    ⟨(some 28), (some (26, true)), .q (.mv (.t 5)), []⟩,
    ⟨(some 29), (some (26, true)), .q (.idx (.t 27) (.t 28)), []⟩,
    ⟨(some 30), (some (26, true)), .e (.call 34 [(.t 29)]), []⟩,
    ⟨(some 31), none, .q (.pick (.t 26) (.t 30) (.v (.bool false))), []⟩]
def c17_11 : ACode := .cond (.t 31) .skip (.exit 0)
def c17_12 : ACode := .seq c17_10 c17_11
def c17_13 : ACode := .ops [
    ⟨(some 32), none, .q (.mv (.t 6)), []⟩,
    ⟨(some 33), none, .q (.mv (.t 0)), []⟩,
    ⟨(some 34), none, .q (.mv (.t 5)), []⟩,
    ⟨(some 35), none, .q (.mv (.t 5)), []⟩,
    ⟨(some 36), none, .q (.bin .add (.t 35) (.v (.int .i64 1))), []⟩,
    ⟨(some 37), none, .q (.sls (true, 0) (.t 33) (.t 34) (.t 36)), []⟩,
    ⟨(some 38), none, .q (.bin .add (.t 32) (.t 37)), []⟩,
    ⟨(some 6), none, .q (.mv (.t 38)), []⟩]
def c17_14 : ACode := .ops [
    ⟨(some 39), none, .q (.mv (.t 5)), []⟩,
    ⟨(some 40), none, .q (.bin .add (.t 39) (.v (.int .i64 1))), []⟩,
    ⟨(some 5), none, .q (.mv (.t 40)), []⟩]
def c17_15 : ACode := .seq c17_13 c17_14
def c17_16 : ACode := .block 1 c17_15
def c17_17 : ACode := .seq c17_12 c17_16
def c17_18 : ACode := .loop c17_17
def c17_19 : ACode := .block 0 c17_18
def c17_20 : ACode := .ops [
    ⟨(some 42), none, .q (.mv (.t 6)), []⟩,
    ⟨(some 43), none, .e (.call 35 [(.t 42)]), []⟩,
    ⟨(some 41), none, .q (.mv (.t 43)), []⟩,
    ⟨(some 44), none, .q (.ext 0 (.t 41)), []⟩,
    ⟨(some 45), none, .q (.ext 1 (.t 41)), []⟩,
    ⟨(some 7), none, .q (.mv (.t 44)), []⟩,
    ⟨(some 8), none, .q (.mv (.t 45)), []⟩]
def c17_21 : ACode := .ops [
    ⟨(some 46), none, .q (.mv (.t 8)), []⟩,
    ⟨(some 47), none, .q (.un .not (.t 46)), []⟩]
def c17_22 : ACode := .ops [
    ⟨(some 48), none, .q (.build [(.int .i64 0), (.int .i64 0), (.bool false), (.bool false)] []), []⟩,
    ⟨none, none, .e (.store 4 (.t 2) (.t 48)), []⟩,
    ⟨(some 3), none, .q (.mv (.v (.int .i64 0))), []⟩]
def c17_23 : ACode := .seq c17_22 .ret
def c17_24 : ACode := .cond (.t 47) c17_23 .skip
def c17_25 : ACode := .seq c17_21 c17_24
def c17_26 : ACode := .ops [
    ⟨(some 49), none, .q (.mv (.t 7)), []⟩,
    ⟨(some 50), none, .q (.fa 1 (.t 4)), []⟩,
    ⟨none, none, .e (.store 1 (.t 50) (.t 49)), []⟩]
def c17_27 : ACode := .ops [
    ⟨(some 51), none, .q (.mv (.t 5)), []⟩,
    ⟨(some 52), none, .q (.mv (.t 0)), []⟩,
    ⟨(some 53), none, .q (.lenS (.t 52)), []⟩,
    ⟨(some 54), none, .q (.bin .lss (.t 51) (.t 53)), []⟩,
    ⟨(some 55), none, .q (.mv (.t 54)), []⟩,
    ⟨(some 56), (some (55, true)), .q (.mv (.t 0)), []⟩,
    ⟨(some 57), (some (55, true)), .q (.mv (.t 5)), []⟩,
    ⟨(some 58), (some (55, true)), .q (.idx (.t 56) (.t 57)), []⟩,
    ⟨(some 59), (some (55, true)), .q (.bin .eql (.t 58) (.v (.int .u8 36))), []⟩,
    ⟨(some 60), none, .q (.pick (.t 55) (.t 59) (.v (.bool false))), []⟩]
def c17_28 : ACode := .ops [
    ⟨(some 61), none, .q (.fa 2 (.t 4)), []⟩,
    ⟨none, none, .e (.store 1 (.t 61) (.v (.bool true))), []⟩]
def c17_29 : ACode := .ops [
    ⟨(some 62), none, .q (.mv (.t 5)), []⟩,
    ⟨(some 63), none, .q (.bin .add (.t 62) (.v (.int .i64 1))), []⟩,
    ⟨(some 5), none, .q (.mv (.t 63)), []⟩]
def c17_30 : ACode := .seq c17_28 c17_29
def c17_31 : ACode := .cond (.t 60) c17_30 .skip
def c17_32 : ACode := .seq c17_27 c17_31
def c17_33 : ACode := .ops [
    ⟨(some 9), none, .q (.mv (.v (.str []))), []⟩]
def c17_34 : ACode := .ops [
    ⟨(some 64), none, .q (.mv (.t 5)), []⟩,
    ⟨(some 65), none, .q (.mv (.t 0)), []⟩,
    ⟨(some 66), none, .q (.lenS (.t 65)), []⟩,
    ⟨(some 67), none, .q (.bin .lss (.t 64) (.t 66)), []⟩,
    ⟨(some 68), none, .q (.mv (.t 67)), []⟩,
    ⟨(some 69), (some (68, true)), .q (.mv (.t 0)), []⟩,
    ⟨(some 70), (some (68, true)), .q (.mv (.t 5)), []⟩,
    ⟨(some 71), (some (68, true)), .q (.idx (.t 69) (.t 70)), []⟩,
    ⟨(some 72), (some (68, true)), .q (.bin .geq (.t 71) (.v (.int .u8 48))), []⟩,
    ⟨(some 73), none, .q (.pick (.t 68) (.t 72) (.v (.bool false))), []⟩,
    ⟨(some 74), none, .q (.mv (.t 73)), []⟩,
    ⟨(some 75), (some (74, true)), .q (.mv (.t 0)), []⟩,
    ⟨(some 76), (some (74, true)), .q (.mv (.t 5)), []⟩,
    ⟨(some 77), (some (74, true)), .q (.idx (.t 75) (.t 76)), []⟩,
    ⟨(some 78), (some (74, true)), .q (.bin .leq (.t 77) (.v (.int .u8 57))), []⟩,
    ⟨(some 79), none, .q (.pick (.t 74) (.t 78) (.v (.bool false))), []⟩]
def c17_35 : ACode := .cond (.t 79) .skip (.exit 2)
def c17_36 : ACode := .seq c17_34 c17_35
def c17_37 : ACode := .ops [
    ⟨(some 80), none, .q (.mv (.t 9)), []⟩,
    ⟨(some 81), none, .q (.mv (.t 0)), []⟩,
    ⟨(some 82), none, .q (.mv (.t 5)), []⟩,
    ⟨(some 83), none, .q (.mv (.t 5)), []⟩,
    ⟨(some 84), none, .q (.bin .add (.t 83) (.v (.int .i64 1))), []⟩,
    ⟨(some 85), none, .q (.sls (true, 0) (.t 81) (.t 82) (.t 84)), []⟩,
    ⟨(some 86), none, .q (.bin .add (.t 80) (.t 85)), []⟩,
    ⟨(some 9), none, .q (.mv (.t 86)), []⟩]
def c17_38 : ACode := .ops [
    ⟨(some 87), none, .q (.mv (.t 5)), []⟩,
    ⟨(some 88), none, .q (.bin .add (.t 87) (.v (.int .i64 1))), []⟩,
    ⟨(some 5), none, .q (.mv (.t 88)), []⟩]
def c17_39 : ACode := .seq c17_37 c17_38
def c17_40 : ACode := .block 3 c17_39
def c17_41 : ACode := .seq c17_36 c17_40
def c17_42 : ACode := .loop c17_41
def c17_43 : ACode := .block 2 c17_42
def c17_44 : ACode := .ops [
    ⟨(some 89), none, .q (.mv (.t 9)), []⟩,
    ⟨(some 90), none, .q (.lenS (.t 89)), []⟩,
    ⟨(some 91), none, .q (.bin .lss (.t 90) (.v (.int .i64 1))), []⟩,
    ⟨(some 92), none, .q (.mv (.t 91)), []⟩,
    ⟨(some 93), (some (92, false)), .q (.mv (.t 9)), []⟩,
    ⟨(some 94), (some (92, false)), .q (.lenS (.t 93)), []⟩,
    ⟨(some 95), (some (92, false)), .q (.bin .gtr (.t 94) (.v (.int .i64 4))), []⟩,
    ⟨(some 96), none, .q (.pick (.t 92) (.v (.bool true)) (.t 95)), []⟩,
    ⟨(some 97), none, .q (.mv (.t 96)), []⟩,
    ⟨(some 98), (some (97, false)), .q (.mv (.t 9)), []⟩,
    ⟨(some 99), (some (97, false)), .q (.idx (.t 98) (.v (.int .i64 0))), []⟩,
    ⟨(some 100), (some (97, false)), .q (.bin .eql (.t 99) (.v (.int .u8 48))), []⟩,
    ⟨(some 101), none, .q (.pick (.t 97) (.v (.bool true)) (.t 100)), []⟩,
    ⟨(some 102), none, .q (.mv (.t 101)), []⟩,
    ⟨(some 103), (some (102, false)), .q (.mv (.t 5)), []⟩,
    ⟨(some 104), (some (102, false)), .q (.mv (.t 0)), []⟩,
    ⟨(some 105), (some (102, false)), .q (.lenS (.t 104)), []⟩,
    ⟨(some 106), (some (102, false)), .q (.bin .lss (.t 103) (.t 105)), []⟩,
    ⟨(some 107), (some (102, false)), .q (.mv (.t 106)), []⟩,
    ⟨(some 108), (some (107, true)), .q (.mv (.t 0)), []⟩,
    ⟨(some 109), (some (107, true)), .q (.mv (.t 5)), []⟩,
    ⟨(some 110), (some (107, true)), .q (.idx (.t 108) (.t 109)), []⟩,
    ⟨(some 111), (some (107, true)), .e (.call 34 [(.t 110)]), []⟩,
    ⟨(some 112), (some (107, true)), .q (.mv (.t 111)), []⟩,
    ⟨(some 113), (some (112, false)), .q (.mv (.t 0)), []⟩,
    ⟨(some 114), (some (112, false)), .q (.mv (.t 5)), []⟩,
    ⟨(some 115), (some (112, false)), .q (.idx (.t 113) (.t 114)), []⟩,
    ⟨(some 116), (some (112, false)), .q (.bin .eql (.t 115) (.v (.int .u8 95))), []⟩,
    ⟨(some 117), (some (107, true)), .q (.pick (.t 112) (.v (.bool true)) (.t 116)), []⟩,
    ⟨(some 118), (some (102, false)), .q (.pick (.t 107) (.t 117) (.v (.bool false))), []⟩,
    ⟨(some 119), none, .q (.pick (.t 102) (.v (.bool true)) (.t 118)), []⟩]
def c17_45 : ACode := .ops [
    ⟨(some 120), none, .q (.build [(.int .i64 0), (.int .i64 0), (.bool false), (.bool false)] []), []⟩,
    ⟨none, none, .e (.store 4 (.t 2) (.t 120)), []⟩,
    ⟨(some 3), none, .q (.mv (.v (.int .i64 0))), []⟩]
def c17_46 : ACode := .seq c17_45 .ret
def c17_47 : ACode := .cond (.t 119) c17_46 .skip
def c17_48 : ACode := .seq c17_44 c17_47
def c17_49 : ACode := .ops [
    ⟨(some 10), none, .q (.mv (.v (.int .i64 0))), []⟩]
def c17_50 : ACode := .ops [
    ⟨(some 11), none, .q (.mv (.v (.int .i64 0))), []⟩]
def c17_51 : ACode := .ops [
    ⟨(some 121), none, .q (.mv (.t 11)), []⟩,
    ⟨(some 122), none, .q (.mv (.t 9)), []⟩,
    ⟨(some 123), none, .q (.lenS (.t 122)), []⟩,
    ⟨(some 124), none, .q (.bin .lss (.t 121) (.t 123)), []⟩]
def c17_52 : ACode := .cond (.t 124) .skip (.exit 4)
def c17_53 : ACode := .seq c17_51 c17_52
def c17_54 : ACode := .ops [
    ⟨(some 127), none, .q (.mv (.t 10)), []⟩,
    ⟨(some 128), none, .q (.bin .mul (.v (.int .i64 10)) (.t 127)), []⟩,
    ⟨(some 129), none, .q (.mv (.t 9)), []⟩,
    ⟨(some 130), none, .q (.mv (.t 11)), []⟩,
    ⟨(some 131), none, .q (.idx (.t 129) (.t 130)), []⟩,
    ⟨(some 132), none, .q (.conv .i64 (.t 131)), []⟩,
    ⟨(some 133), none, .q (.bin .add (.t 128) (.t 132)), []⟩,
    ⟨(some 134), none, .q (.bin .sub (.t 133) (.v (.int .i64 48))), []⟩,
    ⟨(some 10), none, .q (.mv (.t 134)), []⟩]
def c17_55 : ACode := .block 5 c17_54
def c17_56 : ACode := .ops [
    ⟨(some 125), none, .q (.mv (.t 11)), []⟩,
    ⟨(some 126), none, .q (.bin .add (.t 125) (.v (.int .i64 1))), []⟩,
    ⟨(some 11), none, .q (.mv (.t 126)), []⟩]
def c17_57 : ACode := .seq c17_55 c17_56
def c17_58 : ACode := .seq c17_53 c17_57
def c17_59 : ACode := .loop c17_58
def c17_60 : ACode := .block 4 c17_59
def c17_61 : ACode := .seq c17_50 c17_60
def c17_62 : ACode := .ops [
    ⟨(some 135), none, .q (.mv (.t 10)), []⟩,
    ⟨(some 136), none, .q (.bin .gtr (.t 135) (.v (.int .i64 3000))), []⟩]
def c17_63 : ACode := .ops [
    ⟨(some 137), none, .q (.build [(.int .i64 0), (.int .i64 0), (.bool false), (.bool false)] []), []⟩,
    ⟨none, none, .e (.store 4 (.t 2) (.t 137)), []⟩,
    ⟨(some 3), none, .q (.mv (.v (.int .i64 0))), []⟩]
def c17_64 : ACode := .seq c17_63 .ret
def c17_65 : ACode := .cond (.t 136) c17_64 .skip
def c17_66 : ACode := .seq c17_62 c17_65
def c17_67 : ACode := .ops [
    ⟨(some 138), none, .q (.mv (.t 10)), []⟩,
    ⟨(some 139), none, .q (.bin .sub (.t 138) (.v (.int .i64 1))), []⟩,
    ⟨(some 140), none, .q (.fa 0 (.t 4)), []⟩,
    ⟨none, none, .e (.store 1 (.t 140) (.t 139)), []⟩]
def c17_68 : ACode := .ops [
    ⟨(some 141), none, .q (.ld (some 4) (.t 4)), []⟩,
    ⟨(some 142), none, .q (.mv (.t 5)), []⟩,
    ⟨none, none, .e (.store 4 (.t 2) (.t 141)), []⟩,
    ⟨(some 3), none, .q (.mv (.t 142)), []⟩]
def c17_69 : ACode := .seq c17_68 .ret
def c17_70 : ACode := .seq c17_67 c17_69
def c17_71 : ACode := .seq c17_66 c17_70
def c17_72 : ACode := .seq c17_61 c17_71
def c17_73 : ACode := .seq c17_49 c17_72
def c17_74 : ACode := .seq c17_48 c17_73
def c17_75 : ACode := .seq c17_43 c17_74
def c17_76 : ACode := .seq c17_33 c17_75
def c17_77 : ACode := .seq c17_32 c17_76
def c17_78 : ACode := .seq c17_26 c17_77
def c17_79 : ACode := .seq c17_25 c17_78
def c17_80 : ACode := .seq c17_20 c17_79
def c17_81 : ACode := .seq c17_19 c17_80
def c17_82 : ACode := .seq c17_9 c17_81
def c17_83 : ACode := .seq c17_8 c17_82
def c17_84 : ACode := .seq c17_2 c17_83
def c17_85 : ACode := .seq c17_1 c17_84
def c17_86 : ACode := .seq c17_0 c17_85
@[go_sem] theorem c17_0_wp (P : Program) (Q : APost) (a : AFr) (σ : ASt) : c17_0.wp P Q a σ = ACode.wp P (.ops [
    ⟨(some 2), none, .e (.alloc [(.int .i64 0), (.int .i64 0), (.bool false), (.bool false)]), []⟩,
    ⟨(some 3), none, .q (.mv (.v (.int .i64 0))), []⟩]) Q a σ := id rfl
@[go_sem] theorem c17_1_wp (P : Program) (Q : APost) (a : AFr) (σ : ASt) : c17_1.wp P Q a σ = ACode.wp P (.ops [
    ⟨(some 12), none, .q (.build [(.int .i64 0), (.int .i64 0), (.bool false), (.bool false)] []), []⟩,
    ⟨(some 4), none, .e (.alloc [(.int .i64 0), (.int .i64 0), (.bool false), (.bool false)]), []⟩,
    ⟨none, none, .e (.store 4 (.t 4) (.t 12)), []⟩]) Q a σ := id rfl
@[go_sem] theorem c17_2_wp (P : Program) (Q : APost) (a : AFr) (σ : ASt) : c17_2.wp P Q a σ = ACode.wp P (.ops [
    ⟨(some 5), none, .q (.mv (.v (.int .i64 0))), []⟩]) Q a σ := id rfl
@[go_sem] theorem c17_3_wp (P : Program) (Q : APost) (a : AFr) (σ : ASt) : c17_3.wp P Q a σ = ACode.wp P (.ops [
    ⟨(some 13), none, .q (.mv (.t 0)), []⟩,
    ⟨(some 14), none, .q (.lenS (.t 13)), []⟩,
    ⟨(some 15), none, .q (.bin .gtr (.t 14) (.v (.int .i64 0))), []⟩,
    ⟨(some 16), none, .q (.mv (.t 15)), []⟩,
    ⟨(some 17), (some (16, true)), .q (.mv (.t 0)), []⟩,
    ⟨(some 18), (some (16, true)), .q (.idx (.t 17) (.v (.int .i64 0))), []⟩,
    ⟨(some 19), (some (16, true)), .q (.bin .eql (.t 18) (.v (.int .u8 36))), []⟩,
    ⟨(some 20), none, .q (.pick (.t 16) (.t 19) (.v (.bool false))), []⟩]) Q a σ := id rfl
@[go_sem] theorem c17_4_wp (P : Program) (Q : APost) (a : AFr) (σ : ASt) : c17_4.wp P Q a σ = ACode.wp P (.ops [
    ⟨(some 21), none, .q (.fa 3 (.t 4)), []⟩,
    ⟨none, none, .e (.store 1 (.t 21) (.v (.bool true))), []⟩]) Q a σ := id rfl
@[go_sem] theorem c17_5_wp (P : Program) (Q : APost) (a : AFr) (σ : ASt) : c17_5.wp P Q a σ = ACode.wp P (.ops [
    ⟨(some 5), none, .q (.mv (.v (.int .i64 1))), []⟩]) Q a σ := id rfl
@[go_sem] theorem c17_6_wp (P : Program) (Q : APost) (a : AFr) (σ : ASt) : c17_6.wp P Q a σ = ACode.wp P (.seq c17_4 c17_5) Q a σ := id rfl
@[go_sem] theorem c17_7_wp (P : Program) (Q : APost) (a : AFr) (σ : ASt) : c17_7.wp P Q a σ = ACode.wp P (.cond (.t 20) c17_6 .skip) Q a σ := id rfl
@[go_sem] theorem c17_8_wp (P : Program) (Q : APost) (a : AFr) (σ : ASt) : c17_8.wp P Q a σ = ACode.wp P (.seq c17_3 c17_7) Q a σ := id rfl
@[go_sem] theorem c17_9_wp (P : Program) (Q : APost) (a : AFr) (σ : ASt) : c17_9.wp P Q a σ = ACode.wp P (.ops [
    ⟨(some 6), none, .q (.mv (.v (.str []))), []⟩]) Q a σ := id rfl
@[go_sem] theorem c17_10_wp (P : Program) (Q : APost) (a : AFr) (σ : ASt) : c17_10.wp P Q a σ = ACode.wp P (.ops [
    ⟨(some 22), none, .q (.mv (.t 5)), []⟩,
    ⟨(some 23), none, .q (.mv (.t 0)), []⟩,
    ⟨(some 24), none, .q (.lenS (.t 23)), []⟩,
    ⟨(some 25), none, .q (.bin .lss (.t 22) (.t 24)), []⟩,
    ⟨(some 26), none, .q (.mv (.t 25)), []⟩,
    ⟨(some 27), (some (26, true)), .q (.mv (.t 0)), []⟩,
    ⟨(some 28), (some (26, true)), .q (.mv (.t 5)), []⟩,
    ⟨(some 29), (some (26, true)), .q (.idx (.t 27) (.t 28)), []⟩,
    ⟨(some 30), (some (26, true)), .e (.call 34 [(.t 29)]), []⟩,
    ⟨(some 31), none, .q (.pick (.t 26) (.t 30) (.v (.bool false))), []⟩]) Q a σ := id rfl
@[go_sem] theorem c17_11_wp (P : Program) (Q : APost) (a : AFr) (σ : ASt) : c17_11.wp P Q a σ = ACode.wp P (.cond (.t 31) .skip (.exit 0)) Q a σ := id rfl
@[go_sem] theorem c17_12_wp (P : Program) (Q : APost) (a : AFr) (σ : ASt) : c17_12.wp P Q a σ = ACode.wp P (.seq c17_10 c17_11) Q a σ := id rfl
@[go_sem] theorem c17_13_wp (P : Program) (Q : APost) (a : AFr) (σ : ASt) : c17_13.wp P Q a σ = ACode.wp P (.ops [
    ⟨(some 32), none, .q (.mv (.t 6)), []⟩,
    ⟨(some 33), none, .q (.mv (.t 0)), []⟩,
    ⟨(some 34), none, .q (.mv (.t 5)), []⟩,
    ⟨(some 35), none, .q (.mv (.t 5)), []⟩,
    ⟨(some 36), none, .q (.bin .add (.t 35) (.v (.int .i64 1))), []⟩,
    ⟨(some 37), none, .q (.sls (true, 0) (.t 33) (.t 34) (.t 36)), []⟩,
    ⟨(some 38), none, .q (.bin .add (.t 32) (.t 37)), []⟩,
    ⟨(some 6), none, .q (.mv (.t 38)), []⟩]) Q a σ := id rfl
@[go_sem] theorem c17_14_wp (P : Program) (Q : APost) (a : AFr) (σ : ASt) : c17_14.wp P Q a σ = ACode.wp P (.ops [
    ⟨(some 39), none, .q (.mv (.t 5)), []⟩,
    ⟨(some 40), none, .q (.bin .add (.t 39) (.v (.int .i64 1))), []⟩,
    ⟨(some 5), none, .q (.mv (.t 40)), []⟩]) Q a σ := id rfl
@[go_sem] theorem c17_15_wp (P : Program) (Q : APost) (a : AFr) (σ : ASt) : c17_15.wp P Q a σ = ACode.wp P (.seq c17_13 c17_14) Q a σ := id rfl
@[go_sem] theorem c17_16_wp (P : Program) (Q : APost) (a : AFr) (σ : ASt) : c17_16.wp P Q a σ = ACode.wp P (.block 1 c17_15) Q a σ := id rfl
@[go_sem] theorem c17_17_wp (P : Program) (Q : APost) (a : AFr) (σ : ASt) : c17_17.wp P Q a σ = ACode.wp P (.seq c17_12 c17_16) Q a σ := id rfl
@[go_sem] theorem c17_18_wp (P : Program) (Q : APost) (a : AFr) (σ : ASt) : c17_18.wp P Q a σ = ACode.wp P (.loop c17_17) Q a σ := id rfl
@[go_sem] theorem c17_19_wp (P : Program) (Q : APost) (a : AFr) (σ : ASt) : c17_19.wp P Q a σ = ACode.wp P (.block 0 c17_18) Q a σ := id rfl
@[go_sem] theorem c17_20_wp (P : Program) (Q : APost) (a : AFr) (σ : ASt) : c17_20.wp P Q a σ = ACode.wp P (.ops [
    ⟨(some 42), none, .q (.mv (.t 6)), []⟩,
    ⟨(some 43), none, .e (.call 35 [(.t 42)]), []⟩,
    ⟨(some 41), none, .q (.mv (.t 43)), []⟩,
    ⟨(some 44), none, .q (.ext 0 (.t 41)), []⟩,
    ⟨(some 45), none, .q (.ext 1 (.t 41)), []⟩,
    ⟨(some 7), none, .q (.mv (.t 44)), []⟩,
    ⟨(some 8), none, .q (.mv (.t 45)), []⟩]) Q a σ := id rfl
@[go_sem] theorem c17_21_wp (P : Program) (Q : APost) (a : AFr) (σ : ASt) : c17_21.wp P Q a σ = ACode.wp P (.ops [
    ⟨(some 46), none, .q (.mv (.t 8)), []⟩,
    ⟨(some 47), none, .q (.un .not (.t 46)), []⟩]) Q a σ := id rfl
@[go_sem] theorem c17_22_wp (P : Program) (Q : APost) (a : AFr) (σ : ASt) : c17_22.wp P Q a σ = ACode.wp P (.ops [
    ⟨(some 48), none, .q (.build [(.int .i64 0), (.int .i64 0), (.bool false), (.bool false)] []), []⟩,
    ⟨none, none, .e (.store 4 (.t 2) (.t 48)), []⟩,
    ⟨(some 3), none, .q (.mv (.v (.int .i64 0))), []⟩]) Q a σ := id rfl
@[go_sem] theorem c17_23_wp (P : Program) (Q : APost) (a : AFr) (σ : ASt) : c17_23.wp P Q a σ = ACode.wp P (.seq c17_22 .ret) Q a σ := id rfl
@[go_sem] theorem c17_24_wp (P : Program) (Q : APost) (a : AFr) (σ : ASt) : c17_24.wp P Q a σ = ACode.wp P (.cond (.t 47) c17_23 .skip) Q a σ := id rfl
@[go_sem] theorem c17_25_wp (P : Program) (Q : APost) (a : AFr) (σ : ASt) : c17_25.wp P Q a σ = ACode.wp P (.seq c17_21 c17_24) Q a σ := id rfl
@[go_sem] theorem c17_26_wp (P : Program) (Q : APost) (a : AFr) (σ : ASt) : c17_26.wp P Q a σ = ACode.wp P (.ops [
    ⟨(some 49), none, .q (.mv (.t 7)), []⟩,
    ⟨(some 50), none, .q (.fa 1 (.t 4)), []⟩,
    ⟨none, none, .e (.store 1 (.t 50) (.t 49)), []⟩]) Q a σ := id rfl
@[go_sem] theorem c17_27_wp (P : Program) (Q : APost) (a : AFr) (σ : ASt) : c17_27.wp P Q a σ = ACode.wp P (.ops [
    ⟨(some 51), none, .q (.mv (.t 5)), []⟩,
    ⟨(some 52), none, .q (.mv (.t 0)), []⟩,
    ⟨(some 53), none, .q (.lenS (.t 52)), []⟩,
    ⟨(some 54), none, .q (.bin .lss (.t 51) (.t 53)), []⟩,
    ⟨(some 55), none, .q (.mv (.t 54)), []⟩,
    ⟨(some 56), (some (55, true)), .q (.mv (.t 0)), []⟩,
    ⟨(some 57), (some (55, true)), .q (.mv (.t 5)), []⟩,
    ⟨(some 58), (some (55, true)), .q (.idx (.t 56) (.t 57)), []⟩,
    ⟨(some 59), (some (55, true)), .q (.bin .eql (.t 58) (.v (.int .u8 36))), []⟩,
    ⟨(some 60), none, .q (.pick (.t 55) (.t 59) (.v (.bool false))), []⟩]) Q a σ := id rfl
@[go_sem] theorem c17_28_wp (P : Program) (Q : APost) (a : AFr) (σ : ASt) : c17_28.wp P Q a σ = ACode.wp P (.ops [
    ⟨(some 61), none, .q (.fa 2 (.t 4)), []⟩,
    ⟨none, none, .e (.store 1 (.t 61) (.v (.bool true))), []⟩]) Q a σ := id rfl
@[go_sem] theorem c17_29_wp (P : Program) (Q : APost) (a : AFr) (σ : ASt) : c17_29.wp P Q a σ = ACode.wp P (.ops [
    ⟨(some 62), none, .q (.mv (.t 5)), []⟩,
    ⟨(some 63), none, .q (.bin .add (.t 62) (.v (.int .i64 1))), []⟩,
    ⟨(some 5), none, .q (.mv (.t 63)), []⟩]) Q a σ := id rfl
@[go_sem] theorem c17_30_wp (P : Program) (Q : APost) (a : AFr) (σ : ASt) : c17_30.wp P Q a σ = ACode.wp P (.seq c17_28 c17_29) Q a σ := id rfl
@[go_sem] theorem c17_31_wp (P : Program) (Q : APost) (a : AFr) (σ : ASt) : c17_31.wp P Q a σ = ACode.wp P (.cond (.t 60) c17_30 .skip) Q a σ := id rfl
@[go_sem] theorem c17_32_wp (P : Program) (Q : APost) (a : AFr) (σ : ASt) : c17_32.wp P Q a σ = ACode.wp P (.seq c17_27 c17_31) Q a σ := id rfl
@[go_sem] theorem c17_33_wp (P : Program) (Q : APost) (a : AFr) (σ : ASt) : c17_33.wp P Q a σ = ACode.wp P (.ops [
    ⟨(some 9), none, .q (.mv (.v (.str []))), []⟩]) Q a σ := id rfl
@[go_sem] theorem c17_34_wp (P : Program) (Q : APost) (a : AFr) (σ : ASt) : c17_34.wp P Q a σ = ACode.wp P (.ops [
    ⟨(some 64), none, .q (.mv (.t 5)), []⟩,
    ⟨(some 65), none, .q (.mv (.t 0)), []⟩,
    ⟨(some 66), none, .q (.lenS (.t 65)), []⟩,
    ⟨(some 67), none, .q (.bin .lss (.t 64) (.t 66)), []⟩,
    ⟨(some 68), none, .q (.mv (.t 67)), []⟩,
    ⟨(some 69), (some (68, true)), .q (.mv (.t 0)), []⟩,
    ⟨(some 70), (some (68, true)), .q (.mv (.t 5)), []⟩,
    ⟨(some 71), (some (68, true)), .q (.idx (.t 69) (.t 70)), []⟩,
    ⟨(some 72), (some (68, true)), .q (.bin .geq (.t 71) (.v (.int .u8 48))), []⟩,
    ⟨(some 73), none, .q (.pick (.t 68) (.t 72) (.v (.bool false))), []⟩,
    ⟨(some 74), none, .q (.mv (.t 73)), []⟩,
    ⟨(some 75), (some (74, true)), .q (.mv (.t 0)), []⟩,
    ⟨(some 76), (some (74, true)), .q (.mv (.t 5)), []⟩,
    ⟨(some 77), (some (74, true)), .q (.idx (.t 75) (.t 76)), []⟩,
    ⟨(some 78), (some (74, true)), .q (.bin .leq (.t 77) (.v (.int .u8 57))), []⟩,
    ⟨(some 79), none, .q (.pick (.t 74) (.t 78) (.v (.bool false))), []⟩]) Q a σ := id rfl
@[go_sem] theorem c17_35_wp (P : Program) (Q : APost) (a : AFr) (σ : ASt) : c17_35.wp P Q a σ = ACode.wp P (.cond (.t 79) .skip (.exit 2)) Q a σ := id rfl
@[go_sem] theorem c17_36_wp (P : Program) (Q : APost) (a : AFr) (σ : ASt) : c17_36.wp P Q a σ = ACode.wp P (.seq c17_34 c17_35) Q a σ := id rfl
@[go_sem] theorem c17_37_wp (P : Program) (Q : APost) (a : AFr) (σ : ASt) : c17_37.wp P Q a σ = ACode.wp P (.ops [
    ⟨(some 80), none, .q (.mv (.t 9)), []⟩,
    ⟨(some 81), none, .q (.mv (.t 0)), []⟩,
    ⟨(some 82), none, .q (.mv (.t 5)), []⟩,
    ⟨(some 83), none, .q (.mv (.t 5)), []⟩,
    ⟨(some 84), none, .q (.bin .add (.t 83) (.v (.int .i64 1))), []⟩,
    ⟨(some 85), none, .q (.sls (true, 0) (.t 81) (.t 82) (.t 84)), []⟩,
    ⟨(some 86), none, .q (.bin .add (.t 80) (.t 85)), []⟩,
    ⟨(some 9), none, .q (.mv (.t 86)), []⟩]) Q a σ := id rfl
@[go_sem] theorem c17_38_wp (P : Program) (Q : APost) (a : AFr) (σ : ASt) : c17_38.wp P Q a σ = ACode.wp P (.ops [
    ⟨(some 87), none, .q (.mv (.t 5)), []⟩,
    ⟨(some 88), none, .q (.bin .add (.t 87) (.v (.int .i64 1))), []⟩,
    ⟨(some 5), none, .q (.mv (.t 88)), []⟩]) Q a σ := id rfl
@[go_sem] theorem c17_39_wp (P : Program) (Q : APost) (a : AFr) (σ : ASt) : c17_39.wp P Q a σ = ACode.wp P (.seq c17_37 c17_38) Q a σ := id rfl
@[go_sem] theorem c17_40_wp (P : Program) (Q : APost) (a : AFr) (σ : ASt) : c17_40.wp P Q a σ = ACode.wp P (.block 3 c17_39) Q a σ := id rfl
@[go_sem] theorem c17_41_wp (P : Program) (Q : APost) (a : AFr) (σ : ASt) : c17_41.wp P Q a σ = ACode.wp P (.seq c17_36 c17_40) Q a σ := id rfl
@[go_sem] theorem c17_42_wp (P : Program) (Q : APost) (a : AFr) (σ : ASt) : c17_42.wp P Q a σ = ACode.wp P (.loop c17_41) Q a σ := id rfl
@[go_sem] theorem c17_43_wp (P : Program) (Q : APost) (a : AFr) (σ : ASt) : c17_43.wp P Q a σ = ACode.wp P (.block 2 c17_42) Q a σ := id rfl
@[go_sem] theorem c17_44_wp (P : Program) (Q : APost) (a : AFr) (σ : ASt) : c17_44.wp P Q a σ = ACode.wp P (.ops [
    ⟨(some 89), none, .q (.mv (.t 9)), []⟩,
    ⟨(some 90), none, .q (.lenS (.t 89)), []⟩,
    ⟨(some 91), none, .q (.bin .lss (.t 90) (.v (.int .i64 1))), []⟩,
    ⟨(some 92), none, .q (.mv (.t 91)), []⟩,
    ⟨(some 93), (some (92, false)), .q (.mv (.t 9)), []⟩,
    ⟨(some 94), (some (92, false)), .q (.lenS (.t 93)), []⟩,
    ⟨(some 95), (some (92, false)), .q (.bin .gtr (.t 94) (.v (.int .i64 4))), []⟩,
    ⟨(some 96), none, .q (.pick (.t 92) (.v (.bool true)) (.t 95)), []⟩,
    ⟨(some 97), none, .q (.mv (.t 96)), []⟩,
    ⟨(some 98), (some (97, false)), .q (.mv (.t 9)), []⟩,
    ⟨(some 99), (some (97, false)), .q (.idx (.t 98) (.v (.int .i64 0))), []⟩,
    ⟨(some 100), (some (97, false)), .q (.bin .eql (.t 99) (.v (.int .u8 48))), []⟩,
    ⟨(some 101), none, .q (.pick (.t 97) (.v (.bool true)) (.t 100)), []⟩,
    ⟨(some 102), none, .q (.mv (.t 101)), []⟩,
    ⟨(some 103), (some (102, false)), .q (.mv (.t 5)), []⟩,
    ⟨(some 104), (some (102, false)), .q (.mv (.t 0)), []⟩,
    ⟨(some 105), (some (102, false)), .q (.lenS (.t 104)), []⟩,
    ⟨(some 106), (some (102, false)), .q (.bin .lss (.t 103) (.t 105)), []⟩,
    ⟨(some 107), (some (102, false)), .q (.mv (.t 106)), []⟩,
    ⟨(some 108), (some (107, true)), .q (.mv (.t 0)), []⟩,
    ⟨(some 109), (some (107, true)), .q (.mv (.t 5)), []⟩,
    ⟨(some 110), (some (107, true)), .q (.idx (.t 108) (.t 109)), []⟩,
    ⟨(some 111), (some (107, true)), .e (.call 34 [(.t 110)]), []⟩,
    ⟨(some 112), (some (107, true)), .q (.mv (.t 111)), []⟩,
    ⟨(some 113), (some (112, false)), .q (.mv (.t 0)), []⟩,
    ⟨(some 114), (some (112, false)), .q (.mv (.t 5)), []⟩,
    ⟨(some 115), (some (112, false)), .q (.idx (.t 113) (.t 114)), []⟩,
    ⟨(some 116), (some (112, false)), .q (.bin .eql (.t 115) (.v (.int .u8 95))), []⟩,
    ⟨(some 117), (some (107, true)), .q (.pick (.t 112) (.v (.bool true)) (.t 116)), []⟩,
    ⟨(some 118), (some (102, false)), .q (.pick (.t 107) (.t 117) (.v (.bool false))), []⟩,
    ⟨(some 119), none, .q (.pick (.t 102) (.v (.bool true)) (.t 118)), []⟩]) Q a σ := id rfl
@[go_sem] theorem c17_45_wp (P : Program) (Q : APost) (a : AFr) (σ : ASt) : c17_45.wp P Q a σ = ACode.wp P (.ops [
    ⟨(some 120), none, .q (.build [(.int .i64 0), (.int .i64 0), (.bool false), (.bool false)] []), []⟩,
    ⟨none, none, .e (.store 4 (.t 2) (.t 120)), []⟩,
    ⟨(some 3), none, .q (.mv (.v (.int .i64 0))), []⟩]) Q a σ := id rfl
@[go_sem] theorem c17_46_wp (P : Program) (Q : APost) (a : AFr) (σ : ASt) : c17_46.wp P Q a σ = ACode.wp P (.seq c17_45 .ret) Q a σ := id rfl
@[go_sem] theorem c17_47_wp (P : Program) (Q : APost) (a : AFr) (σ : ASt) : c17_47.wp P Q a σ = ACode.wp P (.cond (.t 119) c17_46 .skip) Q a σ := id rfl
@[go_sem] theorem c17_48_wp (P : Program) (Q : APost) (a : AFr) (σ : ASt) : c17_48.wp P Q a σ = ACode.wp P (.seq c17_44 c17_47) Q a σ := id rfl
@[go_sem] theorem c17_49_wp (P : Program) (Q : APost) (a : AFr) (σ : ASt) : c17_49.wp P Q a σ = ACode.wp P (.ops [
    ⟨(some 10), none, .q (.mv (.v (.int .i64 0))), []⟩]) Q a σ := id rfl
@[go_sem] theorem c17_50_wp (P : Program) (Q : APost) (a : AFr) (σ : ASt) : c17_50.wp P Q a σ = ACode.wp P (.ops [
    ⟨(some 11), none, .q (.mv (.v (.int .i64 0))), []⟩]) Q a σ := id rfl
@[go_sem] theorem c17_51_wp (P : Program) (Q : APost) (a : AFr) (σ : ASt) : c17_51.wp P Q a σ = ACode.wp P (.ops [
    ⟨(some 121), none, .q (.mv (.t 11)), []⟩,
    ⟨(some 122), none, .q (.mv (.t 9)), []⟩,
    ⟨(some 123), none, .q (.lenS (.t 122)), []⟩,
    ⟨(some 124), none, .q (.bin .lss (.t 121) (.t 123)), []⟩]) Q a σ := id rfl
@[go_sem] theorem c17_52_wp (P : Program) (Q : APost) (a : AFr) (σ : ASt) : c17_52.wp P Q a σ = ACode.wp P (.cond (.t 124) .skip (.exit 4)) Q a σ := id rfl
@[go_sem] theorem c17_53_wp (P : Program) (Q : APost) (a : AFr) (σ : ASt) : c17_53.wp P Q a σ = ACode.wp P (.seq c17_51 c17_52) Q a σ := id rfl
@[go_sem] theorem c17_54_wp (P : Program) (Q : APost) (a : AFr) (σ : ASt) : c17_54.wp P Q a σ = ACode.wp P (.ops [
    ⟨(some 127), none, .q (.mv (.t 10)), []⟩,
    ⟨(some 128), none, .q (.bin .mul (.v (.int .i64 10)) (.t 127)), []⟩,
    ⟨(some 129), none, .q (.mv (.t 9)), []⟩,
    ⟨(some 130), none, .q (.mv (.t 11)), []⟩,
    ⟨(some 131), none, .q (.idx (.t 129) (.t 130)), []⟩,
    ⟨(some 132), none, .q (.conv .i64 (.t 131)), []⟩,
    ⟨(some 133), none, .q (.bin .add (.t 128) (.t 132)), []⟩,
    ⟨(some 134), none, .q (.bin .sub (.t 133) (.v (.int .i64 48))), []⟩,
    ⟨(some 10), none, .q (.mv (.t 134)), []⟩]) Q a σ := id rfl
@[go_sem] theorem c17_55_wp (P : Program) (Q : APost) (a : AFr) (σ : ASt) : c17_55.wp P Q a σ = ACode.wp P (.block 5 c17_54) Q a σ := id rfl
@[go_sem] theorem c17_56_wp (P : Program) (Q : APost) (a : AFr) (σ : ASt) : c17_56.wp P Q a σ = ACode.wp P (.ops [
    ⟨(some 125), none, .q (.mv (.t 11)), []⟩,
    ⟨(some 126), none, .q (.bin .add (.t 125) (.v (.int .i64 1))), []⟩,
    ⟨(some 11), none, .q (.mv (.t 126)), []⟩]) Q a σ := id rfl
@[go_sem] theorem c17_57_wp (P : Program) (Q : APost) (a : AFr) (σ : ASt) : c17_57.wp P Q a σ = ACode.wp P (.seq c17_55 c17_56) Q a σ := id rfl
@[go_sem] theorem c17_58_wp (P : Program) (Q : APost) (a : AFr) (σ : ASt) : c17_58.wp P Q a σ = ACode.wp P (.seq c17_53 c17_57) Q a σ := id rfl
@[go_sem] theorem c17_59_wp (P : Program) (Q : APost) (a : AFr) (σ : ASt) : c17_59.wp P Q a σ = ACode.wp P (.loop c17_58) Q a σ := id rfl
@[go_sem] theorem c17_60_wp (P : Program) (Q : APost) (a : AFr) (σ : ASt) : c17_60.wp P Q a σ = ACode.wp P (.block 4 c17_59) Q a σ := id rfl
@[go_sem] theorem c17_61_wp (P : Program) (Q : APost) (a : AFr) (σ : ASt) : c17_61.wp P Q a σ = ACode.wp P (.seq c17_50 c17_60) Q a σ := id rfl
@[go_sem] theorem c17_62_wp (P : Program) (Q : APost) (a : AFr) (σ : ASt) : c17_62.wp P Q a σ = ACode.wp P (.ops [
    ⟨(some 135), none, .q (.mv (.t 10)), []⟩,
    ⟨(some 136), none, .q (.bin .gtr (.t 135) (.v (.int .i64 3000))), []⟩]) Q a σ := id rfl
@[go_sem] theorem c17_63_wp (P : Program) (Q : APost) (a : AFr) (σ : ASt) : c17_63.wp P Q a σ = ACode.wp P (.ops [
    ⟨(some 137), none, .q (.build [(.int .i64 0), (.int .i64 0), (.bool false), (.bool false)] []), []⟩,
    ⟨none, none, .e (.store 4 (.t 2) (.t 137)), []⟩,
    ⟨(some 3), none, .q (.mv (.v (.int .i64 0))), []⟩]) Q a σ := id rfl
@[go_sem] theorem c17_64_wp (P : Program) (Q : APost) (a : AFr) (σ : ASt) : c17_64.wp P Q a σ = ACode.wp P (.seq c17_63 .ret) Q a σ := id rfl
@[go_sem] theorem c17_65_wp (P : Program) (Q : APost) (a : AFr) (σ : ASt) : c17_65.wp P Q a σ = ACode.wp P (.cond (.t 136) c17_64 .skip) Q a σ := id rfl
@[go_sem] theorem c17_66_wp (P : Program) (Q : APost) (a : AFr) (σ : ASt) : c17_66.wp P Q a σ = ACode.wp P (.seq c17_62 c17_65) Q a σ := id rfl
@[go_sem] theorem c17_67_wp (P : Program) (Q : APost) (a : AFr) (σ : ASt) : c17_67.wp P Q a σ = ACode.wp P (.ops [
    ⟨(some 138), none, .q (.mv (.t 10)), []⟩,
    ⟨(some 139), none, .q (.bin .sub (.t 138) (.v (.int .i64 1))), []⟩,
    ⟨(some 140), none, .q (.fa 0 (.t 4)), []⟩,
    ⟨none, none, .e (.store 1 (.t 140) (.t 139)), []⟩]) Q a σ := id rfl
@[go_sem] theorem c17_68_wp (P : Program) (Q : APost) (a : AFr) (σ : ASt) : c17_68.wp P Q a σ = ACode.wp P (.ops [
    ⟨(some 141), none, .q (.ld (some 4) (.t 4)), []⟩,
    ⟨(some 142), none, .q (.mv (.t 5)), []⟩,
    ⟨none, none, .e (.store 4 (.t 2) (.t 141)), []⟩,
    ⟨(some 3), none, .q (.mv (.t 142)), []⟩]) Q a σ := id rfl
@[go_sem] theorem c17_69_wp (P : Program) (Q : APost) (a : AFr) (σ : ASt) : c17_69.wp P Q a σ = ACode.wp P (.seq c17_68 .ret) Q a σ := id rfl
@[go_sem] theorem c17_70_wp (P : Program) (Q : APost) (a : AFr) (σ : ASt) : c17_70.wp P Q a σ = ACode.wp P (.seq c17_67 c17_69) Q a σ := id rfl
@[go_sem] theorem c17_71_wp (P : Program) (Q : APost) (a : AFr) (σ : ASt) : c17_71.wp P Q a σ = ACode.wp P (.seq c17_66 c17_70) Q a σ := id rfl
@[go_sem] theorem c17_72_wp (P : Program) (Q : APost) (a : AFr) (σ : ASt) : c17_72.wp P Q a σ = ACode.wp P (.seq c17_61 c17_71) Q a σ := id rfl
@[go_sem] theorem c17_73_wp (P : Program) (Q : APost) (a : AFr) (σ : ASt) : c17_73.wp P Q a σ = ACode.wp P (.seq c17_49 c17_72) Q a σ := id rfl
@[go_sem] theorem c17_74_wp (P : Program) (Q : APost) (a : AFr) (σ : ASt) : c17_74.wp P Q a σ = ACode.wp P (.seq c17_48 c17_73) Q a σ := id rfl
@[go_sem] theorem c17_75_wp (P : Program) (Q : APost) (a : AFr) (σ : ASt) : c17_75.wp P Q a σ = ACode.wp P (.seq c17_43 c17_74) Q a σ := id rfl
@[go_sem] theorem c17_76_wp (P : Program) (Q : APost) (a : AFr) (σ : ASt) : c17_76.wp P Q a σ = ACode.wp P (.seq c17_33 c17_75) Q a σ := id rfl
@[go_sem] theorem c17_77_wp (P : Program) (Q : APost) (a : AFr) (σ : ASt) : c17_77.wp P Q a σ = ACode.wp P (.seq c17_32 c17_76) Q a σ := id rfl
@[go_sem] theorem c17_78_wp (P : Program) (Q : APost) (a : AFr) (σ : ASt) : c17_78.wp P Q a σ = ACode.wp P (.seq c17_26 c17_77) Q a σ := id rfl
@[go_sem] theorem c17_79_wp (P : Program) (Q : APost) (a : AFr) (σ : ASt) : c17_79.wp P Q a σ = ACode.wp P (.seq c17_25 c17_78) Q a σ := id rfl
@[go_sem] theorem c17_80_wp (P : Program) (Q : APost) (a : AFr) (σ : ASt) : c17_80.wp P Q a σ = ACode.wp P (.seq c17_20 c17_79) Q a σ := id rfl
@[go_sem] theorem c17_81_wp (P : Program) (Q : APost) (a : AFr) (σ : ASt) : c17_81.wp P Q a σ = ACode.wp P (.seq c17_19 c17_80) Q a σ := id rfl
@[go_sem] theorem c17_82_wp (P : Program) (Q : APost) (a : AFr) (σ : ASt) : c17_82.wp P Q a σ = ACode.wp P (.seq c17_9 c17_81) Q a σ := id rfl
@[go_sem] theorem c17_83_wp (P : Program) (Q : APost) (a : AFr) (σ : ASt) : c17_83.wp P Q a σ = ACode.wp P (.seq c17_8 c17_82) Q a σ := id rfl
@[go_sem] theorem c17_84_wp (P : Program) (Q : APost) (a : AFr) (σ : ASt) : c17_84.wp P Q a σ = ACode.wp P (.seq c17_2 c17_83) Q a σ := id rfl
@[go_sem] theorem c17_85_wp (P : Program) (Q : APost) (a : AFr) (σ : ASt) : c17_85.wp P Q a σ = ACode.wp P (.seq c17_1 c17_84) Q a σ := id rfl
@[go_sem] theorem c17_86_wp (P : Program) (Q : APost) (a : AFr) (σ : ASt) : c17_86.wp P Q a σ = ACode.wp P (.seq c17_0 c17_85) Q a σ := id rfl
def c17 : AFn := ⟨143, [.c 2 (some 4), .t 3], c17_86⟩
set_option maxRecDepth 100000 in
theorem c17_ok : compF Tryd.prog Tryd.f17 = some c17 := by kernel_rfl
theorem a17 {args : List AV} {σ : ASt} {R : AV → ASt → Prop} (hl : args.length ≤ 143) (h : c17_86.wp Tryd.prog (RetQ [.c 2 (some 4), .t 3] R) (init args) σ) : ACalls Tryd.prog 17 args σ R := acalls_of Tryd.func17 c17_ok hl h

/-! 18: tabular/tabularref10.Good -/
def c18_0 : ACode := .ops [
    ⟨(some 1), none, .e (.box (.t 0)), []⟩,
    ⟨(some 2), none, .q (.mv (.v (.bool false))), []⟩]
def c18_1 : ACode := .ops [
    ⟨(some 3), none, .q (.fa 0 (.t 1)), []⟩,
    ⟨(some 4), none, .q (.ld none (.t 3)), []⟩,
    ⟨(some 5), none, .q (.bin .geq (.t 4) (.v (.int .i64 0))), []⟩,
    ⟨(some 6), none, .q (.mv (.t 5)), []⟩,
    ⟨(some 7), (some (6, true)), .q (.fa 0 (.t 1)), []⟩,
    ⟨(some 8), (some (6, true)), .q (.ld none (.t 7)), []⟩,
    ⟨(some 9), (some (6, true)), .q (.bin .lss (.t 8) (.v (.int .i64 3000))), []⟩,
    ⟨(some 10), none, .q (.pick (.t 6) (.t 9) (.v (.bool false))), []⟩,
    ⟨(some 11), none, .q (.mv (.t 10)), []⟩,
    ⟨(some 12), (some (11, true)), .q (.fa 1 (.t 1)), []⟩,
    ⟨(some 13), (some (11, true)), .q (.ld none (.t 12)), []⟩,
    ⟨(some 14), (some (11, true)), .q (.bin .geq (.t 13) (.v (.int .i64 0))), []⟩,
    ⟨(some 15), none, .q (.pick (.t 11) (.t 14) (.v (.bool false))), []⟩,
    ⟨(some 16), none, .q (.mv (.t 15)), []⟩,
    ⟨(some 17), (some (16, true)), .q (.fa 1 (.t 1)), []⟩,
    ⟨(some 18), (some (16, true)), .q (.ld none (.t 17)), []⟩,
    ⟨(some 19), (some (16, true)), .q (.bin .lss (.t 18) (.v (.int .i64 700))), []⟩,
    ⟨(some 20), none, .q (.pick (.t 16) (.t 19) (.v (.bool false))), []⟩,
    ⟨(some 2), none, .q (.mv (.t 20)), []⟩]
def c18_2 : ACode := .seq c18_1 .ret
def c18_3 : ACode := .seq c18_0 c18_2
@[go_sem] theorem c18_0_wp (P : Program) (Q : APost) (a : AFr) (σ : ASt) : c18_0.wp P Q a σ = ACode.wp P (.ops [
    ⟨(some 1), none, .e (.box (.t 0)), []⟩,
    ⟨(some 2), none, .q (.mv (.v (.bool false))), []⟩]) Q a σ := id rfl
@[go_sem] theorem c18_1_wp (P : Program) (Q : APost) (a : AFr) (σ : ASt) : c18_1.wp P Q a σ = ACode.wp P (.ops [
    ⟨(some 3), none, .q (.fa 0 (.t 1)), []⟩,
    ⟨(some 4), none, .q (.ld none (.t 3)), []⟩,
    ⟨(some 5), none, .q (.bin .geq (.t 4) (.v (.int .i64 0))), []⟩,
    ⟨(some 6), none, .q (.mv (.t 5)), []⟩,
    ⟨(some 7), (some (6, true)), .q (.fa 0 (.t 1)), []⟩,
    ⟨(some 8), (some (6, true)), .q (.ld none (.t 7)), []⟩,
    ⟨(some 9), (some (6, true)), .q (.bin .lss (.t 8) (.v (.int .i64 3000))), []⟩,
    ⟨(some 10), none, .q (.pick (.t 6) (.t 9) (.v (.bool false))), []⟩,
    ⟨(some 11), none, .q (.mv (.t 10)), []⟩,
    ⟨(some 12), (some (11, true)), .q (.fa 1 (.t 1)), []⟩,
    ⟨(some 13), (some (11, true)), .q (.ld none (.t 12)), []⟩,
    ⟨(some 14), (some (11, true)), .q (.bin .geq (.t 13) (.v (.int .i64 0))), []⟩,
    ⟨(some 15), none, .q (.pick (.t 11) (.t 14) (.v (.bool false))), []⟩,
    ⟨(some 16), none, .q (.mv (.t 15)), []⟩,
    ⟨(some 17), (some (16, true)), .q (.fa 1 (.t 1)), []⟩,
    ⟨(some 18), (some (16, true)), .q (.ld none (.t 17)), []⟩,
    ⟨(some 19), (some (16, true)), .q (.bin .lss (.t 18) (.v (.int .i64 700))), []⟩,
    ⟨(some 20), none, .q (.pick (.t 16) (.t 19) (.v (.bool false))), []⟩,
    ⟨(some 2), none, .q (.mv (.t 20)), []⟩]) Q a σ := id rfl
@[go_sem] theorem c18_2_wp (P : Program) (Q : APost) (a : AFr) (σ : ASt) : c18_2.wp P Q a σ = ACode.wp P (.seq c18_1 .ret) Q a σ := id rfl
@[go_sem] theorem c18_3_wp (P : Program) (Q : APost) (a : AFr) (σ : ASt) : c18_3.wp P Q a σ = ACode.wp P (.seq c18_0 c18_2) Q a σ := id rfl
def c18 : AFn := ⟨21, [.t 2], c18_3⟩
set_option maxRecDepth 100000 in
theorem c18_ok : compF Tryd.prog Tryd.f18 = some c18 := by kernel_rfl
theorem a18 {args : List AV} {σ : ASt} {R : AV → ASt → Prop} (hl : args.length ≤ 21) (h : c18_3.wp Tryd.prog (RetQ [.t 2] R) (init args) σ) : ACalls Tryd.prog 18 args σ R := acalls_of Tryd.func18 c18_ok hl h

/-! 20: tabular/tabularref10.Moved -/
def c20_0 : ACode := .ops [
    ⟨(some 3), none, .e (.box (.t 0)), []⟩,
    ⟨(some 6), none, .e (.alloc [(.int .i64 0), (.int .i64 0), (.bool false), (.bool false)]), []⟩,
    ⟨(some 7), none, .q (.mv (.v (.bool false))), []⟩]
def c20_1 : ACode := .ops [
    ⟨(some 8), none, .q (.fa 2 (.t 3)), []⟩,
    ⟨(some 9), none, .q (.ld none (.t 8)), []⟩,
    ⟨(some 10), none, .q (.un .not (.t 9)), []⟩,
    ⟨(some 11), none, .q (.mv (.t 10)), []⟩,
    ⟨(some 12), (some (11, true)), .q (.mv (.t 1)), []⟩,
    ⟨(some 13), (some (11, true)), .q (.bin .gtr (.t 12) (.v (.int .i64 3000))), []⟩,
    ⟨(some 14), (some (11, true)), .q (.mv (.t 13)), []⟩,
    ⟨(some 15), (some (14, false)), .q (.mv (.t 1)), []⟩,
    ⟨(some 16), (some (14, false)), .q (.bin .lss (.t 15) (.v (.int .i64 (-3000)))), []⟩,
    ⟨(some 17), (some (11, true)), .q (.pick (.t 14) (.v (.bool true)) (.t 16)), []⟩,
    ⟨(some 18), none, .q (.pick (.t 11) (.t 17) (.v (.bool false))), []⟩,
    ⟨(some 19), none, .q (.mv (.t 18)), []⟩,
    ⟨(some 20), (some (19, false)), .q (.fa 3 (.t 3)), []⟩,
    ⟨(some 21), (some (19, false)), .q (.ld none (.t 20)), []⟩,
    ⟨(some 22), (some (19, false)), .q (.un .not (.t 21)), []⟩,
    ⟨(some 23), (some (19, false)), .q (.mv (.t 22)), []⟩,
    ⟨(some 24), (some (23, true)), .q (.mv (.t 2)), []⟩,
    ⟨(some 25), (some (23, true)), .q (.bin .gtr (.t 24) (.v (.int .i64 3000))), []⟩,
    ⟨(some 26), (some (23, true)), .q (.mv (.t 25)), []⟩,
    ⟨(some 27), (some (26, false)), .q (.mv (.t 2)), []⟩,
    ⟨(some 28), (some (26, false)), .q (.bin .lss (.t 27) (.v (.int .i64 (-3000)))), []⟩,
    ⟨(some 29), (some (23, true)), .q (.pick (.t 26) (.v (.bool true)) (.t 28)), []⟩,
    ⟨(some 30), (some (19, false)), .q (.pick (.t 23) (.t 29) (.v (.bool false))), []⟩,
    ⟨(some 31), none, .q (.pick (.t 19) (.v (.bool true)) (.t 30)), []⟩]
def c20_2 : ACode := .ops [
    ⟨(some 32), none, .q (.build [(.int .i64 0), (.int .i64 0), (.bool false), (.bool false)] []), []⟩,
    ⟨none, none, .e (.store 4 (.t 6) (.t 32)), []⟩,
    ⟨(some 7), none, .q (.mv (.v (.bool false))), []⟩]
def c20_3 : ACode := .seq c20_2 .ret
def c20_4 : ACode := .cond (.t 31) c20_3 .skip
def c20_5 : ACode := .seq c20_1 c20_4
def c20_6 : ACode := .ops [
    ⟨(some 33), none, .q (.fa 2 (.t 3)), []⟩,
    ⟨(some 34), none, .q (.ld none (.t 33)), []⟩,
    ⟨(some 35), none, .q (.un .not (.t 34)), []⟩]
def c20_7 : ACode := .ops [
    ⟨(some 36), none, .q (.fa 0 (.t 3)), []⟩,
    ⟨(some 37), none, .q (.ld none (.t 36)), []⟩,
    ⟨(some 38), none, .q (.mv (.t 1)), []⟩,
    ⟨(some 39), none, .q (.bin .add (.t 37) (.t 38)), []⟩,
    ⟨(some 40), none, .q (.fa 0 (.t 3)), []⟩,
    ⟨none, none, .e (.store 1 (.t 40) (.t 39)), []⟩]
def c20_8 : ACode := .cond (.t 35) c20_7 .skip
def c20_9 : ACode := .seq c20_6 c20_8
def c20_10 : ACode := .ops [
    ⟨(some 41), none, .q (.fa 3 (.t 3)), []⟩,
    ⟨(some 42), none, .q (.ld none (.t 41)), []⟩,
    ⟨(some 43), none, .q (.un .not (.t 42)), []⟩]
def c20_11 : ACode := .ops [
    ⟨(some 44), none, .q (.fa 1 (.t 3)), []⟩,
    ⟨(some 45), none, .q (.ld none (.t 44)), []⟩,
    ⟨(some 46), none, .q (.mv (.t 2)), []⟩,
    ⟨(some 47), none, .q (.bin .add (.t 45) (.t 46)), []⟩,
    ⟨(some 48), none, .q (.fa 1 (.t 3)), []⟩,
    ⟨none, none, .e (.store 1 (.t 48) (.t 47)), []⟩]
def c20_12 : ACode := .cond (.t 43) c20_11 .skip
def c20_13 : ACode := .seq c20_10 c20_12
def c20_14 : ACode := .ops [
    ⟨(some 49), none, .q (.ld (some 4) (.t 3)), []⟩,
    ⟨(some 50), none, .e (.call 18 [(.t 49)]), []⟩,
    ⟨(some 51), none, .q (.un .not (.t 50)), []⟩]
def c20_15 : ACode := .ops [
    ⟨(some 52), none, .q (.build [(.int .i64 0), (.int .i64 0), (.bool false), (.bool false)] []), []⟩,
    ⟨none, none, .e (.store 4 (.t 6) (.t 52)), []⟩,
    ⟨(some 7), none, .q (.mv (.v (.bool false))), []⟩]
def c20_16 : ACode := .seq c20_15 .ret
def c20_17 : ACode := .cond (.t 51) c20_16 .skip
def c20_18 : ACode := .seq c20_14 c20_17
def c20_19 : ACode := .ops [
    ⟨(some 53), none, .q (.ld (some 4) (.t 3)), []⟩,
    ⟨none, none, .e (.store 4 (.t 6) (.t 53)), []⟩,
    ⟨(some 7), none, .q (.mv (.v (.bool true))), []⟩]
def c20_20 : ACode := .seq c20_19 .ret
def c20_21 : ACode := .seq c20_18 c20_20
def c20_22 : ACode := .seq c20_13 c20_21
def c20_23 : ACode := .seq c20_9 c20_22
def c20_24 : ACode := .seq c20_5 c20_23
def c20_25 : ACode := .seq c20_0 c20_24
@[go_sem] theorem c20_0_wp (P : Program) (Q : APost) (a : AFr) (σ : ASt) : c20_0.wp P Q a σ = ACode.wp P (.ops [
    ⟨(some 3), none, .e (.box (.t 0)), []⟩,
    ⟨(some 6), none, .e (.alloc [(.int .i64 0), (.int .i64 0), (.bool false), (.bool false)]), []⟩,
    ⟨(some 7), none, .q (.mv (.v (.bool false))), []⟩]) Q a σ := id rfl
@[go_sem] theorem c20_1_wp (P : Program) (Q : APost) (a : AFr) (σ : ASt) : c20_1.wp P Q a σ = ACode.wp P (.ops [
    ⟨(some 8), none, .q (.fa 2 (.t 3)), []⟩,
    ⟨(some 9), none, .q (.ld none (.t 8)), []⟩,
    ⟨(some 10), none, .q (.un .not (.t 9)), []⟩,
    ⟨(some 11), none, .q (.mv (.t 10)), []⟩,
    ⟨(some 12), (some (11, true)), .q (.mv (.t 1)), []⟩,
    ⟨(some 13), (some (11, true)), .q (.bin .gtr (.t 12) (.v (.int .i64 3000))), []⟩,
    ⟨(some 14), (some (11, true)), .q (.mv (.t 13)), []⟩,
    ⟨(some 15), (some (14, false)), .q (.mv (.t 1)), []⟩,
    ⟨(some 16), (some (14, false)), .q (.bin .lss (.t 15) (.v (.int .i64 (-3000)))), []⟩,
    ⟨(some 17), (some (11, true)), .q (.pick (.t 14) (.v (.bool true)) (.t 16)), []⟩,
    ⟨(some 18), none, .q (.pick (.t 11) (.t 17) (.v (.bool false))), []⟩,
    ⟨(some 19), none, .q (.mv (.t 18)), []⟩,
    ⟨(some 20), (some (19, false)), .q (.fa 3 (.t 3)), []⟩,
    ⟨(some 21), (some (19, false)), .q (.ld none (.t 20)), []⟩,
    ⟨(some 22), (some (19, false)), .q (.un .not (.t 21)), []⟩,
    ⟨(some 23), (some (19, false)), .q (.mv (.t 22)), []⟩,
    ⟨(some 24), (some (23, true)), .q (.mv (.t 2)), []⟩,
    ⟨(some 25), (some (23, true)), .q (.bin .gtr (.t 24) (.v (.int .i64 3000))), []⟩,
    ⟨(some 26), (some (23, true)), .q (.mv (.t 25)), []⟩,
    ⟨(some 27), (some (26, false)), .q (.mv (.t 2)), []⟩,
    ⟨(some 28), (some (26, false)), .q (.bin .lss (.t 27) (.v (.int .i64 (-3000)))), []⟩,
    ⟨(some 29), (some (23, true)), .q (.pick (.t 26) (.v (.bool true)) (.t 28)), []⟩,
    ⟨(some 30), (some (19, false)), .q (.pick (.t 23) (.t 29) (.v (.bool false))), []⟩,
    ⟨(some 31), none, .q (.pick (.t 19) (.v (.bool true)) (.t 30)), []⟩]) Q a σ := id rfl
@[go_sem] theorem c20_2_wp (P : Program) (Q : APost) (a : AFr) (σ : ASt) : c20_2.wp P Q a σ = ACode.wp P (.ops [
    ⟨(some 32), none, .q (.build [(.int .i64 0), (.int .i64 0), (.bool false), (.bool false)] []), []⟩,
    ⟨none, none, .e (.store 4 (.t 6) (.t 32)), []⟩,
    ⟨(some 7), none, .q (.mv (.v (.bool false))), []⟩]) Q a σ := id rfl
@[go_sem] theorem c20_3_wp (P : Program) (Q : APost) (a : AFr) (σ : ASt) : c20_3.wp P Q a σ = ACode.wp P (.seq c20_2 .ret) Q a σ := id rfl
@[go_sem] theorem c20_4_wp (P : Program) (Q : APost) (a : AFr) (σ : ASt) : c20_4.wp P Q a σ = ACode.wp P (.cond (.t 31) c20_3 .skip) Q a σ := id rfl
@[go_sem] theorem c20_5_wp (P : Program) (Q : APost) (a : AFr) (σ : ASt) : c20_5.wp P Q a σ = ACode.wp P (.seq c20_1 c20_4) Q a σ := id rfl
@[go_sem] theorem c20_6_wp (P : Program) (Q : APost) (a : AFr) (σ : ASt) : c20_6.wp P Q a σ = ACode.wp P (.ops [
    ⟨(some 33), none, .q (.fa 2 (.t 3)), []⟩,
    ⟨(some 34), none, .q (.ld none (.t 33)), []⟩,
    ⟨(some 35), none, .q (.un .not (.t 34)), []⟩]) Q a σ := id rfl
@[go_sem] theorem c20_7_wp (P : Program) (Q : APost) (a : AFr) (σ : ASt) : c20_7.wp P Q a σ = ACode.wp P (.ops [
    ⟨(some 36), none, .q (.fa 0 (.t 3)), []⟩,
    ⟨(some 37), none, .q (.ld none (.t 36)), []⟩,
    ⟨(some 38), none, .q (.mv (.t 1)), []⟩,
    ⟨(some 39), none, .q (.bin .add (.t 37) (.t 38)), []⟩,
    ⟨(some 40), none, .q (.fa 0 (.t 3)), []⟩,
    ⟨none, none, .e (.store 1 (.t 40) (.t 39)), []⟩]) Q a σ := id rfl
@[go_sem] theorem c20_8_wp (P : Program) (Q : APost) (a : AFr) (σ : ASt) : c20_8.wp P Q a σ = ACode.wp P (.cond (.t 35) c20_7 .skip) Q a σ := id rfl
@[go_sem] theorem c20_9_wp (P : Program) (Q : APost) (a : AFr) (σ : ASt) : c20_9.wp P Q a σ = ACode.wp P (.seq c20_6 c20_8) Q a σ := id rfl
@[go_sem] theorem c20_10_wp (P : Program) (Q : APost) (a : AFr) (σ : ASt) : c20_10.wp P Q a σ = ACode.wp P (.ops [
    ⟨(some 41), none, .q (.fa 3 (.t 3)), []⟩,
    ⟨(some 42), none, .q (.ld none (.t 41)), []⟩,
    ⟨(some 43), none, .q (.un .not (.t 42)), []⟩]) Q a σ := id rfl
@[go_sem] theorem c20_11_wp (P : Program) (Q : APost) (a : AFr) (σ : ASt) : c20_11.wp P Q a σ = ACode.wp P (.ops [
    ⟨(some 44), none, .q (.fa 1 (.t 3)), []⟩,
    ⟨(some 45), none, .q (.ld none (.t 44)), []⟩,
    ⟨(some 46), none, .q (.mv (.t 2)), []⟩,
    ⟨(some 47), none, .q (.bin .add (.t 45) (.t 46)), []⟩,
    ⟨(some 48), none, .q (.fa 1 (.t 3)), []⟩,
    ⟨none, none, .e (.store 1 (.t 48) (.t 47)), []⟩]) Q a σ := id rfl
@[go_sem] theorem c20_12_wp (P : Program) (Q : APost) (a : AFr) (σ : ASt) : c20_12.wp P Q a σ = ACode.wp P (.cond (.t 43) c20_11 .skip) Q a σ := id rfl
@[go_sem] theorem c20_13_wp (P : Program) (Q : APost) (a : AFr) (σ : ASt) : c20_13.wp P Q a σ = ACode.wp P (.seq c20_10 c20_12) Q a σ := id rfl
@[go_sem] theorem c20_14_wp (P : Program) (Q : APost) (a : AFr) (σ : ASt) : c20_14.wp P Q a σ = ACode.wp P (.ops [
    ⟨(some 49), none, .q (.ld (some 4) (.t 3)), []⟩,
    ⟨(some 50), none, .e (.call 18 [(.t 49)]), []⟩,
    ⟨(some 51), none, .q (.un .not (.t 50)), []⟩]) Q a σ := id rfl
@[go_sem] theorem c20_15_wp (P : Program) (Q : APost) (a : AFr) (σ : ASt) : c20_15.wp P Q a σ = ACode.wp P (.ops [
    ⟨(some 52), none, .q (.build [(.int .i64 0), (.int .i64 0), (.bool false), (.bool false)] []), []⟩,
    ⟨none, none, .e (.store 4 (.t 6) (.t 52)), []⟩,
    ⟨(some 7), none, .q (.mv (.v (.bool false))), []⟩]) Q a σ := id rfl
@[go_sem] theorem c20_16_wp (P : Program) (Q : APost) (a : AFr) (σ : ASt) : c20_16.wp P Q a σ = ACode.wp P (.seq c20_15 .ret) Q a σ := id rfl
@[go_sem] theorem c20_17_wp (P : Program) (Q : APost) (a : AFr) (σ : ASt) : c20_17.wp P Q a σ = ACode.wp P (.cond (.t 51) c20_16 .skip) Q a σ := id rfl
@[go_sem] theorem c20_18_wp (P : Program) (Q : APost) (a : AFr) (σ : ASt) : c20_18.wp P Q a σ = ACode.wp P (.seq c20_14 c20_17) Q a σ := id rfl
@[go_sem] theorem c20_19_wp (P : Program) (Q : APost) (a : AFr) (σ : ASt) : c20_19.wp P Q a σ = ACode.wp P (.ops [
    ⟨(some 53), none, .q (.ld (some 4) (.t 3)), []⟩,
    ⟨none, none, .e (.store 4 (.t 6) (.t 53)), []⟩,
    ⟨(some 7), none, .q (.mv (.v (.bool true))), []⟩]) Q a σ := id rfl
@[go_sem] theorem c20_20_wp (P : Program) (Q : APost) (a : AFr) (σ : ASt) : c20_20.wp P Q a σ = ACode.wp P (.seq c20_19 .ret) Q a σ := id rfl
@[go_sem] theorem c20_21_wp (P : Program) (Q : APost) (a : AFr) (σ : ASt) : c20_21.wp P Q a σ = ACode.wp P (.seq c20_18 c20_20) Q a σ := id rfl
@[go_sem] theorem c20_22_wp (P : Program) (Q : APost) (a : AFr) (σ : ASt) : c20_22.wp P Q a σ = ACode.wp P (.seq c20_13 c20_21) Q a σ := id rfl
@[go_sem] theorem c20_23_wp (P : Program) (Q : APost) (a : AFr) (σ : ASt) : c20_23.wp P Q a σ = ACode.wp P (.seq c20_9 c20_22) Q a σ := id rfl
@[go_sem] theorem c20_24_wp (P : Program) (Q : APost) (a : AFr) (σ : ASt) : c20_24.wp P Q a σ = ACode.wp P (.seq c20_5 c20_23) Q a σ := id rfl
@[go_sem] theorem c20_25_wp (P : Program) (Q : APost) (a : AFr) (σ : ASt) : c20_25.wp P Q a σ = ACode.wp P (.seq c20_0 c20_24) Q a σ := id rfl
def c20 : AFn := ⟨54, [.c 6 (some 4), .t 7], c20_25⟩
set_option maxRecDepth 100000 in
theorem c20_ok : compF Tryd.prog Tryd.f20 = some c20 := by kernel_rfl
theorem a20 {args : List AV} {σ : ASt} {R : AV → ASt → Prop} (hl : args.length ≤ 54) (h : c20_25.wp Tryd.prog (RetQ [.c 6 (some 4), .t 7] R) (init args) σ) : ACalls Tryd.prog 20 args σ R := acalls_of Tryd.func20 c20_ok hl h

/-! 21: tabular/tabularref10.Text -/
def c21_0 : ACode := .ops [
    ⟨(some 1), none, .e (.box (.t 0)), []⟩,
    ⟨(some 2), none, .q (.mv (.v (.str []))), []⟩]
def c21_1 : ACode := .ops [
    ⟨(some 3), none, .q (.mv (.v (.str []))), []⟩]
def c21_2 : ACode := .ops [
    ⟨(some 4), none, .q (.fa 3 (.t 1)), []⟩,
    ⟨(some 5), none, .q (.ld none (.t 4)), []⟩]
def c21_3 : ACode := .ops [
    ⟨(some 3), none, .q (.mv (.v (.str [36]))), []⟩]
def c21_4 : ACode := .cond (.t 5) c21_3 .skip
def c21_5 : ACode := .seq c21_2 c21_4
def c21_6 : ACode := .ops [
    ⟨(some 6), none, .q (.mv (.t 3)), []⟩,
    ⟨(some 7), none, .q (.fa 1 (.t 1)), []⟩,
    ⟨(some 8), none, .q (.ld none (.t 7)), []⟩,
    ⟨(some 9), none, .e (.call 36 [(.t 8)]), []⟩,
    ⟨(some 10), none, .q (.bin .add (.t 6) (.t 9)), []⟩,
    ⟨(some 3), none, .q (.mv (.t 10)), []⟩]
def c21_7 : ACode := .ops [
    ⟨(some 11), none, .q (.fa 2 (.t 1)), []⟩,
    ⟨(some 12), none, .q (.ld none (.t 11)), []⟩]
def c21_8 : ACode := .ops [
    ⟨(some 13), none, .q (.mv (.t 3)), []⟩,
    ⟨(some 14), none, .q (.bin .add (.t 13) (.v (.str [36]))), []⟩,
    ⟨(some 3), none, .q (.mv (.t 14)), []⟩]
def c21_9 : ACode := .cond (.t 12) c21_8 .skip
def c21_10 : ACode := .seq c21_7 c21_9
def c21_11 : ACode := .ops [
    ⟨(some 15), none, .q (.mv (.t 3)), []⟩,
    ⟨(some 16), none, .q (.fa 0 (.t 1)), []⟩,
    ⟨(some 17), none, .q (.ld none (.t 16)), []⟩,
    ⟨(some 18), none, .q (.bin .add (.t 17) (.v (.int .i64 1))), []⟩,
    ⟨(some 19), none, .q (.conv .u64 (.t 18)), []⟩,
    ⟨(some 20), none, .e (.call 37 [(.t 19)]), []⟩,
    ⟨(some 21), none, .q (.bin .add (.t 15) (.t 20)), []⟩,
    ⟨(some 2), none, .q (.mv (.t 21)), []⟩]
def c21_12 : ACode := .seq c21_11 .ret
def c21_13 : ACode := .seq c21_10 c21_12
def c21_14 : ACode := .seq c21_6 c21_13
def c21_15 : ACode := .seq c21_5 c21_14
def c21_16 : ACode := .seq c21_1 c21_15
def c21_17 : ACode := .seq c21_0 c21_16
@[go_sem] theorem c21_0_wp (P : Program) (Q : APost) (a : AFr) (σ : ASt) : c21_0.wp P Q a σ = ACode.wp P (.ops [
    ⟨(some 1), none, .e (.box (.t 0)), []⟩,
    ⟨(some 2), none, .q (.mv (.v (.str []))), []⟩]) Q a σ := id rfl
@[go_sem] theorem c21_1_wp (P : Program) (Q : APost) (a : AFr) (σ : ASt) : c21_1.wp P Q a σ = ACode.wp P (.ops [
    ⟨(some 3), none, .q (.mv (.v (.str []))), []⟩]) Q a σ := id rfl
@[go_sem] theorem c21_2_wp (P : Program) (Q : APost) (a : AFr) (σ : ASt) : c21_2.wp P Q a σ = ACode.wp P (.ops [
    ⟨(some 4), none, .q (.fa 3 (.t 1)), []⟩,
    ⟨(some 5), none, .q (.ld none (.t 4)), []⟩]) Q a σ := id rfl
@[go_sem] theorem c21_3_wp (P : Program) (Q : APost) (a : AFr) (σ : ASt) : c21_3.wp P Q a σ = ACode.wp P (.ops [
    ⟨(some 3), none, .q (.mv (.v (.str [36]))), []⟩]) Q a σ := id rfl
@[go_sem] theorem c21_4_wp (P : Program) (Q : APost) (a : AFr) (σ : ASt) : c21_4.wp P Q a σ = ACode.wp P (.cond (.t 5) c21_3 .skip) Q a σ := id rfl
@[go_sem] theorem c21_5_wp (P : Program) (Q : APost) (a : AFr) (σ : ASt) : c21_5.wp P Q a σ = ACode.wp P (.seq c21_2 c21_4) Q a σ := id rfl
@[go_sem] theorem c21_6_wp (P : Program) (Q : APost) (a : AFr) (σ : ASt) : c21_6.wp P Q a σ = ACode.wp P (.ops [
    ⟨(some 6), none, .q (.mv (.t 3)), []⟩,
    ⟨(some 7), none, .q (.fa 1 (.t 1)), []⟩,
    ⟨(some 8), none, .q (.ld none (.t 7)), []⟩,
    ⟨(some 9), none, .e (.call 36 [(.t 8)]), []⟩,
    ⟨(some 10), none, .q (.bin .add (.t 6) (.t 9)), []⟩,
    ⟨(some 3), none, .q (.mv (.t 10)), []⟩]) Q a σ := id rfl
@[go_sem] theorem c21_7_wp (P : Program) (Q : APost) (a : AFr) (σ : ASt) : c21_7.wp P Q a σ = ACode.wp P (.ops [
    ⟨(some 11), none, .q (.fa 2 (.t 1)), []⟩,
    ⟨(some 12), none, .q (.ld none (.t 11)), []⟩]) Q a σ := id rfl
@[go_sem] theorem c21_8_wp (P : Program) (Q : APost) (a : AFr) (σ : ASt) : c21_8.wp P Q a σ = ACode.wp P (.ops [
    ⟨(some 13), none, .q (.mv (.t 3)), []⟩,
    ⟨(some 14), none, .q (.bin .add (.t 13) (.v (.str [36]))), []⟩,
    ⟨(some 3), none, .q (.mv (.t 14)), []⟩]) Q a σ := id rfl
@[go_sem] theorem c21_9_wp (P : Program) (Q : APost) (a : AFr) (σ : ASt) : c21_9.wp P Q a σ = ACode.wp P (.cond (.t 12) c21_8 .skip) Q a σ := id rfl
@[go_sem] theorem c21_10_wp (P : Program) (Q : APost) (a : AFr) (σ : ASt) : c21_10.wp P Q a σ = ACode.wp P (.seq c21_7 c21_9) Q a σ := id rfl
@[go_sem] theorem c21_11_wp (P : Program) (Q : APost) (a : AFr) (σ : ASt) : c21_11.wp P Q a σ = ACode.wp P (.ops [
    ⟨(some 15), none, .q (.mv (.t 3)), []⟩,
    ⟨(some 16), none, .q (.fa 0 (.t 1)), []⟩,
    ⟨(some 17), none, .q (.ld none (.t 16)), []⟩,
    ⟨(some 18), none, .q (.bin .add (.t 17) (.v (.int .i64 1))), []⟩,
    ⟨(some 19), none, .q (.conv .u64 (.t 18)), []⟩,
    ⟨(some 20), none, .e (.call 37 [(.t 19)]), []⟩,
    ⟨(some 21), none, .q (.bin .add (.t 15) (.t 20)), []⟩,
    ⟨(some 2), none, .q (.mv (.t 21)), []⟩]) Q a σ := id rfl
@[go_sem] theorem c21_12_wp (P : Program) (Q : APost) (a : AFr) (σ : ASt) : c21_12.wp P Q a σ = ACode.wp P (.seq c21_11 .ret) Q a σ := id rfl
@[go_sem] theorem c21_13_wp (P : Program) (Q : APost) (a : AFr) (σ : ASt) : c21_13.wp P Q a σ = ACode.wp P (.seq c21_10 c21_12) Q a σ := id rfl
@[go_sem] theorem c21_14_wp (P : Program) (Q : APost) (a : AFr) (σ : ASt) : c21_14.wp P Q a σ = ACode.wp P (.seq c21_6 c21_13) Q a σ := id rfl
@[go_sem] theorem c21_15_wp (P : Program) (Q : APost) (a : AFr) (σ : ASt) : c21_15.wp P Q a σ = ACode.wp P (.seq c21_5 c21_14) Q a σ := id rfl
@[go_sem] theorem c21_16_wp (P : Program) (Q : APost) (a : AFr) (σ : ASt) : c21_16.wp P Q a σ = ACode.wp P (.seq c21_1 c21_15) Q a σ := id rfl
@[go_sem] theorem c21_17_wp (P : Program) (Q : APost) (a : AFr) (σ : ASt) : c21_17.wp P Q a σ = ACode.wp P (.seq c21_0 c21_16) Q a σ := id rfl
def c21 : AFn := ⟨22, [.t 2], c21_17⟩
set_option maxRecDepth 100000 in
theorem c21_ok : compF Tryd.prog Tryd.f21 = some c21 := by kernel_rfl
theorem a21 {args : List AV} {σ : ASt} {R : AV → ASt → Prop} (hl : args.length ≤ 22) (h : c21_17.wp Tryd.prog (RetQ [.t 2] R) (init args) σ) : ACalls Tryd.prog 21 args σ R := acalls_of Tryd.func21 c21_ok hl h

/-! 34: tabular/tabularref10.isLetter -/
def c34_0 : ACode := .ops [
    ⟨(some 2), none, .q (.mv (.v (.bool false))), []⟩]
def c34_1 : ACode := .ops [
    ⟨(some 3), none, .q (.mv (.t 0)), []⟩,
    ⟨(some 4), none, .q (.bin .geq (.t 3) (.v (.int .u8 65))), []⟩,
    ⟨(some 5), none, .q (.mv (.t 4)), []⟩,
    ⟨(some 6), (some (5, true)), .q (.mv (.t 0)), []⟩,
    ⟨(some 7), (some (5, true)), .q (.bin .leq (.t 6) (.v (.int .u8 90))), []⟩,
    ⟨(some 8), none, .q (.pick (.t 5) (.t 7) (.v (.bool false))), []⟩,
    ⟨(some 9), none, .q (.mv (.t 8)), []⟩,
    ⟨(some 10), (some (9, false)), .q (.mv (.t 0)), []⟩,
    ⟨(some 11), (some (9, false)), .q (.bin .geq (.t 10) (.v (.int .u8 97))), []⟩,
    ⟨(some 12), (some (9, false)), .q (.mv (.t 11)), []⟩,
    ⟨(some 13), (some (12, true)), .q (.mv (.t 0)), []⟩,
    ⟨(some 14), (some (12, true)), .q (.bin .leq (.t 13) (.v (.int .u8 122))), []⟩,
    ⟨(some 15), (some (9, false)), .q (.pick (.t 12) (.t 14) (.v (.bool false))), []⟩,
    ⟨(some 16), none, .q (.pick (.t 9) (.v (.bool true)) (.t 15)), []⟩,
    ⟨(some 2), none, .q (.mv (.t 16)), []⟩]
def c34_2 : ACode := .seq c34_1 .ret
def c34_3 : ACode := .seq c34_0 c34_2
@[go_sem] theorem c34_0_wp (P : Program) (Q : APost) (a : AFr) (σ : ASt) : c34_0.wp P Q a σ = ACode.wp P (.ops [
    ⟨(some 2), none, .q (.mv (.v (.bool false))), []⟩]) Q a σ := id rfl
@[go_sem] theorem c34_1_wp (P : Program) (Q : APost) (a : AFr) (σ : ASt) : c34_1.wp P Q a σ = ACode.wp P (.ops [
    ⟨(some 3), none, .q (.mv (.t 0)), []⟩,
    ⟨(some 4), none, .q (.bin .geq (.t 3) (.v (.int .u8 65))), []⟩,
    ⟨(some 5), none, .q (.mv (.t 4)), []⟩,
    ⟨(some 6), (some (5, true)), .q (.mv (.t 0)), []⟩,
    ⟨(some 7), (some (5, true)), .q (.bin .leq (.t 6) (.v (.int .u8 90))), []⟩,
    ⟨(some 8), none, .q (.pick (.t 5) (.t 7) (.v (.bool false))), []⟩,
    ⟨(some 9), none, .q (.mv (.t 8)), []⟩,
    ⟨(some 10), (some (9, false)), .q (.mv (.t 0)), []⟩,
    ⟨(some 11), (some (9, false)), .q (.bin .geq (.t 10) (.v (.int .u8 97))), []⟩,
    ⟨(some 12), (some (9, false)), .q (.mv (.t 11)), []⟩,
    ⟨(some 13), (some (12, true)), .q (.mv (.t 0)), []⟩,
    ⟨(some 14), (some (12, true)), .q (.bin .leq (.t 13) (.v (.int .u8 122))), []⟩,
    ⟨(some 15), (some (9, false)), .q (.pick (.t 12) (.t 14) (.v (.bool false))), []⟩,
    ⟨(some 16), none, .q (.pick (.t 9) (.v (.bool true)) (.t 15)), []⟩,
    ⟨(some 2), none, .q (.mv (.t 16)), []⟩]) Q a σ := id rfl
@[go_sem] theorem c34_2_wp (P : Program) (Q : APost) (a : AFr) (σ : ASt) : c34_2.wp P Q a σ = ACode.wp P (.seq c34_1 .ret) Q a σ := id rfl
@[go_sem] theorem c34_3_wp (P : Program) (Q : APost) (a : AFr) (σ : ASt) : c34_3.wp P Q a σ = ACode.wp P (.seq c34_0 c34_2) Q a σ := id rfl
def c34 : AFn := ⟨17, [.t 2], c34_3⟩
set_option maxRecDepth 100000 in
theorem c34_ok : compF Tryd.prog Tryd.f34 = some c34 := by kernel_rfl
theorem a34 {args : List AV} {σ : ASt} {R : AV → ASt → Prop} (hl : args.length ≤ 17) (h : c34_3.wp Tryd.prog (RetQ [.t 2] R) (init args) σ) : ACalls Tryd.prog 34 args σ R := acalls_of Tryd.func34 c34_ok hl h

/-! 35: tabular/tabularref10.Column -/
def c35_0 : ACode := .ops [
    ⟨(some 2), none, .q (.mv (.v (.int .i64 0))), []⟩,
    ⟨(some 3), none, .q (.mv (.v (.bool false))), []⟩]
def c35_1 : ACode := .ops [
    ⟨(some 6), none, .q (.mv (.t 0)), []⟩,
    ⟨(some 7), none, .e (.call 44 [(.t 6)]), []⟩,
    ⟨(some 0), none, .q (.mv (.t 7)), []⟩]
def c35_2 : ACode := .ops [
    ⟨(some 4), none, .q (.mv (.v (.str [65]))), []⟩]
def c35_3 : ACode := .ops [
    ⟨(some 5), none, .q (.mv (.v (.int .i64 0))), []⟩]
def c35_4 : ACode := .ops [
    ⟨(some 8), none, .q (.mv (.t 5)), []⟩,
    ⟨(some 9), none, .q (.bin .lss (.t 8) (.v (.int .i64 700))), []⟩]
def c35_5 : ACode := .cond (.t 9) .skip (.exit 0)
def c35_6 : ACode := .seq c35_4 c35_5
def c35_7 : ACode := .ops [
    ⟨(some 12), none, .q (.mv (.t 4)), []⟩,
    ⟨(some 13), none, .q (.mv (.t 0)), []⟩,
    ⟨(some 14), none, .q (.bin .eql (.t 12) (.t 13)), []⟩]
def c35_8 : ACode := .ops [
    ⟨(some 15), none, .q (.mv (.t 5)), []⟩,
    ⟨(some 2), none, .q (.mv (.t 15)), []⟩,
    ⟨(some 3), none, .q (.mv (.v (.bool true))), []⟩]
def c35_9 : ACode := .seq c35_8 .ret
def c35_10 : ACode := .cond (.t 14) c35_9 .skip
def c35_11 : ACode := .seq c35_7 c35_10
def c35_12 : ACode := .ops [
    ⟨(some 16), none, .q (.mv (.t 4)), []⟩,
    ⟨(some 17), none, .e (.call 45 [(.t 16)]), []⟩,
    ⟨(some 4), none, .q (.mv (.t 17)), []⟩]
def c35_13 : ACode := .seq c35_11 c35_12
def c35_14 : ACode := .block 1 c35_13
def c35_15 : ACode := .ops [
    ⟨(some 10), none, .q (.mv (.t 5)), []⟩,
    ⟨(some 11), none, .q (.bin .add (.t 10) (.v (.int .i64 1))), []⟩,
    ⟨(some 5), none, .q (.mv (.t 11)), []⟩]
def c35_16 : ACode := .seq c35_14 c35_15
def c35_17 : ACode := .seq c35_6 c35_16
def c35_18 : ACode := .loop c35_17
def c35_19 : ACode := .block 0 c35_18
def c35_20 : ACode := .seq c35_3 c35_19
def c35_21 : ACode := .ops [
    ⟨(some 2), none, .q (.mv (.v (.int .i64 0))), []⟩,
    ⟨(some 3), none, .q (.mv (.v (.bool false))), []⟩]
def c35_22 : ACode := .seq c35_21 .ret
def c35_23 : ACode := .seq c35_20 c35_22
def c35_24 : ACode := .seq c35_2 c35_23
def c35_25 : ACode := .seq c35_1 c35_24
def c35_26 : ACode := .seq c35_0 c35_25
@[go_sem] theorem c35_0_wp (P : Program) (Q : APost) (a : AFr) (σ : ASt) : c35_0.wp P Q a σ = ACode.wp P (.ops [
    ⟨(some 2), none, .q (.mv (.v (.int .i64 0))), []⟩,
    ⟨(some 3), none, .q (.mv (.v (.bool false))), []⟩]) Q a σ := id rfl
@[go_sem] theorem c35_1_wp (P : Program) (Q : APost) (a : AFr) (σ : ASt) : c35_1.wp P Q a σ = ACode.wp P (.ops [
    ⟨(some 6), none, .q (.mv (.t 0)), []⟩,
    ⟨(some 7), none, .e (.call 44 [(.t 6)]), []⟩,
    ⟨(some 0), none, .q (.mv (.t 7)), []⟩]) Q a σ := id rfl
@[go_sem] theorem c35_2_wp (P : Program) (Q : APost) (a : AFr) (σ : ASt) : c35_2.wp P Q a σ = ACode.wp P (.ops [
    ⟨(some 4), none, .q (.mv (.v (.str [65]))), []⟩]) Q a σ := id rfl
@[go_sem] theorem c35_3_wp (P : Program) (Q : APost) (a : AFr) (σ : ASt) : c35_3.wp P Q a σ = ACode.wp P (.ops [
    ⟨(some 5), none, .q (.mv (.v (.int .i64 0))), []⟩]) Q a σ := id rfl
@[go_sem] theorem c35_4_wp (P : Program) (Q : APost) (a : AFr) (σ : ASt) : c35_4.wp P Q a σ = ACode.wp P (.ops [
    ⟨(some 8), none, .q (.mv (.t 5)), []⟩,
    ⟨(some 9), none, .q (.bin .lss (.t 8) (.v (.int .i64 700))), []⟩]) Q a σ := id rfl
@[go_sem] theorem c35_5_wp (P : Program) (Q : APost) (a : AFr) (σ : ASt) : c35_5.wp P Q a σ = ACode.wp P (.cond (.t 9) .skip (.exit 0)) Q a σ := id rfl
@[go_sem] theorem c35_6_wp (P : Program) (Q : APost) (a : AFr) (σ : ASt) : c35_6.wp P Q a σ = ACode.wp P (.seq c35_4 c35_5) Q a σ := id rfl
@[go_sem] theorem c35_7_wp (P : Program) (Q : APost) (a : AFr) (σ : ASt) : c35_7.wp P Q a σ = ACode.wp P (.ops [
    ⟨(some 12), none, .q (.mv (.t 4)), []⟩,
    ⟨(some 13), none, .q (.mv (.t 0)), []⟩,
    ⟨(some 14), none, .q (.bin .eql (.t 12) (.t 13)), []⟩]) Q a σ := id rfl
@[go_sem] theorem c35_8_wp (P : Program) (Q : APost) (a : AFr) (σ : ASt) : c35_8.wp P Q a σ = ACode.wp P (.ops [
    ⟨(some 15), none, .q (.mv (.t 5)), []⟩,
    ⟨(some 2), none, .q (.mv (.t 15)), []⟩,
    ⟨(some 3), none, .q (.mv (.v (.bool true))), []⟩]) Q a σ := id rfl
@[go_sem] theorem c35_9_wp (P : Program) (Q : APost) (a : AFr) (σ : ASt) : c35_9.wp P Q a σ = ACode.wp P (.seq c35_8 .ret) Q a σ := id rfl
@[go_sem] theorem c35_10_wp (P : Program) (Q : APost) (a : AFr) (σ : ASt) : c35_10.wp P Q a σ = ACode.wp P (.cond (.t 14) c35_9 .skip) Q a σ := id rfl
@[go_sem] theorem c35_11_wp (P : Program) (Q : APost) (a : AFr) (σ : ASt) : c35_11.wp P Q a σ = ACode.wp P (.seq c35_7 c35_10) Q a σ := id rfl
@[go_sem] theorem c35_12_wp (P : Program) (Q : APost) (a : AFr) (σ : ASt) : c35_12.wp P Q a σ = ACode.wp P (.ops [
    ⟨(some 16), none, .q (.mv (.t 4)), []⟩,
    ⟨(some 17), none, .e (.call 45 [(.t 16)]), []⟩,
    ⟨(some 4), none, .q (.mv (.t 17)), []⟩]) Q a σ := id rfl
@[go_sem] theorem c35_13_wp (P : Program) (Q : APost) (a : AFr) (σ : ASt) : c35_13.wp P Q a σ = ACode.wp P (.seq c35_11 c35_12) Q a σ := id rfl
@[go_sem] theorem c35_14_wp (P : Program) (Q : APost) (a : AFr) (σ : ASt) : c35_14.wp P Q a σ = ACode.wp P (.block 1 c35_13) Q a σ := id rfl
@[go_sem] theorem c35_15_wp (P : Program) (Q : APost) (a : AFr) (σ : ASt) : c35_15.wp P Q a σ = ACode.wp P (.ops [
    ⟨(some 10), none, .q (.mv (.t 5)), []⟩,
    ⟨(some 11), none, .q (.bin .add (.t 10) (.v (.int .i64 1))), []⟩,
    ⟨(some 5), none, .q (.mv (.t 11)), []⟩]) Q a σ := id rfl
@[go_sem] theorem c35_16_wp (P : Program) (Q : APost) (a : AFr) (σ : ASt) : c35_16.wp P Q a σ = ACode.wp P (.seq c35_14 c35_15) Q a σ := id rfl
@[go_sem] theorem c35_17_wp (P : Program) (Q : APost) (a : AFr) (σ : ASt) : c35_17.wp P Q a σ = ACode.wp P (.seq c35_6 c35_16) Q a σ := id rfl
@[go_sem] theorem c35_18_wp (P : Program) (Q : APost) (a : AFr) (σ : ASt) : c35_18.wp P Q a σ = ACode.wp P (.loop c35_17) Q a σ := id rfl
@[go_sem] theorem c35_19_wp (P : Program) (Q : APost) (a : AFr) (σ : ASt) : c35_19.wp P Q a σ = ACode.wp P (.block 0 c35_18) Q a σ := id rfl
@[go_sem] theorem c35_20_wp (P : Program) (Q : APost) (a : AFr) (σ : ASt) : c35_20.wp P Q a σ = ACode.wp P (.seq c35_3 c35_19) Q a σ := id rfl
@[go_sem] theorem c35_21_wp (P : Program) (Q : APost) (a : AFr) (σ : ASt) : c35_21.wp P Q a σ = ACode.wp P (.ops [
    ⟨(some 2), none, .q (.mv (.v (.int .i64 0))), []⟩,
    ⟨(some 3), none, .q (.mv (.v (.bool false))), []⟩]) Q a σ := id rfl
@[go_sem] theorem c35_22_wp (P : Program) (Q : APost) (a : AFr) (σ : ASt) : c35_22.wp P Q a σ = ACode.wp P (.seq c35_21 .ret) Q a σ := id rfl
@[go_sem] theorem c35_23_wp (P : Program) (Q : APost) (a : AFr) (σ : ASt) : c35_23.wp P Q a σ = ACode.wp P (.seq c35_20 c35_22) Q a σ := id rfl
@[go_sem] theorem c35_24_wp (P : Program) (Q : APost) (a : AFr) (σ : ASt) : c35_24.wp P Q a σ = ACode.wp P (.seq c35_2 c35_23) Q a σ := id rfl
@[go_sem] theorem c35_25_wp (P : Program) (Q : APost) (a : AFr) (σ : ASt) : c35_25.wp P Q a σ = ACode.wp P (.seq c35_1 c35_24) Q a σ := id rfl
@[go_sem] theorem c35_26_wp (P : Program) (Q : APost) (a : AFr) (σ : ASt) : c35_26.wp P Q a σ = ACode.wp P (.seq c35_0 c35_25) Q a σ := id rfl
def c35 : AFn := ⟨18, [.t 2, .t 3], c35_26⟩
set_option maxRecDepth 100000 in
theorem c35_ok : compF Tryd.prog Tryd.f35 = some c35 := by kernel_rfl
theorem a35 {args : List AV} {σ : ASt} {R : AV → ASt → Prop} (hl : args.length ≤ 18) (h : c35_26.wp Tryd.prog (RetQ [.t 2, .t 3] R) (init args) σ) : ACalls Tryd.prog 35 args σ R := acalls_of Tryd.func35 c35_ok hl h

/-! 36: tabular/tabularref10.Letters -/
def c36_0 : ACode := .ops [
    ⟨(some 2), none, .q (.mv (.v (.str []))), []⟩]
def c36_1 : ACode := .ops [
    ⟨(some 5), none, .q (.mv (.t 0)), []⟩,
    ⟨(some 6), none, .q (.bin .lss (.t 5) (.v (.int .i64 0))), []⟩,
    ⟨(some 7), none, .q (.mv (.t 6)), []⟩,
    ⟨(some 8), (some (7, false)), .q (.mv (.t 0)), []⟩,
    ⟨(some 9), (some (7, false)), .q (.bin .gtr (.t 8) (.v (.int .i64 699))), []⟩,
    ⟨(some 10), none, .q (.pick (.t 7) (.v (.bool true)) (.t 9)), []⟩]
def c36_2 : ACode := .ops [
    ⟨(some 2), none, .q (.mv (.v (.str []))), []⟩]
def c36_3 : ACode := .seq c36_2 .ret
def c36_4 : ACode := .cond (.t 10) c36_3 .skip
def c36_5 : ACode := .seq c36_1 c36_4
def c36_6 : ACode := .ops [
    ⟨(some 3), none, .q (.mv (.v (.str [65]))), []⟩]
def c36_7 : ACode := .ops [
    ⟨(some 4), none, .q (.mv (.v (.int .i64 0))), []⟩]
def c36_8 : ACode := .ops [
    ⟨(some 11), none, .q (.mv (.t 4)), []⟩,
    ⟨(some 12), none, .q (.mv (.t 0)), []⟩,
    ⟨(some 13), none, .q (.bin .lss (.t 11) (.t 12)), []⟩]
def c36_9 : ACode := .cond (.t 13) .skip (.exit 0)
def c36_10 : ACode := .seq c36_8 c36_9
def c36_11 : ACode := .ops [
    ⟨(some 16), none, .q (.mv (.t 3)), []⟩,
    ⟨(some 17), none, .e (.call 45 [(.t 16)]), []⟩,
    ⟨(some 3), none, .q (.mv (.t 17)), []⟩]
def c36_12 : ACode := .block 1 c36_11
def c36_13 : ACode := .ops [
    ⟨(some 14), none, .q (.mv (.t 4)), []⟩,
    ⟨(some 15), none, .q (.bin .add (.t 14) (.v (.int .i64 1))), []⟩,
    ⟨(some 4), none, .q (.mv (.t 15)), []⟩]
def c36_14 : ACode := .seq c36_12 c36_13
def c36_15 : ACode := .seq c36_10 c36_14
def c36_16 : ACode := .loop c36_15
def c36_17 : ACode := .block 0 c36_16
def c36_18 : ACode := .seq c36_7 c36_17
def c36_19 : ACode := .ops [
    ⟨(some 18), none, .q (.mv (.t 3)), []⟩,
    ⟨(some 2), none, .q (.mv (.t 18)), []⟩]
def c36_20 : ACode := .seq c36_19 .ret
def c36_21 : ACode := .seq c36_18 c36_20
def c36_22 : ACode := .seq c36_6 c36_21
def c36_23 : ACode := .seq c36_5 c36_22
def c36_24 : ACode := .seq c36_0 c36_23
@[go_sem] theorem c36_0_wp (P : Program) (Q : APost) (a : AFr) (σ : ASt) : c36_0.wp P Q a σ = ACode.wp P (.ops [
    ⟨(some 2), none, .q (.mv (.v (.str []))), []⟩]) Q a σ := id rfl
@[go_sem] theorem c36_1_wp (P : Program) (Q : APost) (a : AFr) (σ : ASt) : c36_1.wp P Q a σ = ACode.wp P (.ops [
    ⟨(some 5), none, .q (.mv (.t 0)), []⟩,
    ⟨(some 6), none, .q (.bin .lss (.t 5) (.v (.int .i64 0))), []⟩,
    ⟨(some 7), none, .q (.mv (.t 6)), []⟩,
    ⟨(some 8), (some (7, false)), .q (.mv (.t 0)), []⟩,
    ⟨(some 9), (some (7, false)), .q (.bin .gtr (.t 8) (.v (.int .i64 699))), []⟩,
    ⟨(some 10), none, .q (.pick (.t 7) (.v (.bool true)) (.t 9)), []⟩]) Q a σ := id rfl
@[go_sem] theorem c36_2_wp (P : Program) (Q : APost) (a : AFr) (σ : ASt) : c36_2.wp P Q a σ = ACode.wp P (.ops [
    ⟨(some 2), none, .q (.mv (.v (.str []))), []⟩]) Q a σ := id rfl
@[go_sem] theorem c36_3_wp (P : Program) (Q : APost) (a : AFr) (σ : ASt) : c36_3.wp P Q a σ = ACode.wp P (.seq c36_2 .ret) Q a σ := id rfl
@[go_sem] theorem c36_4_wp (P : Program) (Q : APost) (a : AFr) (σ : ASt) : c36_4.wp P Q a σ = ACode.wp P (.cond (.t 10) c36_3 .skip) Q a σ := id rfl
@[go_sem] theorem c36_5_wp (P : Program) (Q : APost) (a : AFr) (σ : ASt) : c36_5.wp P Q a σ = ACode.wp P (.seq c36_1 c36_4) Q a σ := id rfl
@[go_sem] theorem c36_6_wp (P : Program) (Q : APost) (a : AFr) (σ : ASt) : c36_6.wp P Q a σ = ACode.wp P (.ops [
    ⟨(some 3), none, .q (.mv (.v (.str [65]))), []⟩]) Q a σ := id rfl
@[go_sem] theorem c36_7_wp (P : Program) (Q : APost) (a : AFr) (σ : ASt) : c36_7.wp P Q a σ = ACode.wp P (.ops [
    ⟨(some 4), none, .q (.mv (.v (.int .i64 0))), []⟩]) Q a σ := id rfl
@[go_sem] theorem c36_8_wp (P : Program) (Q : APost) (a : AFr) (σ : ASt) : c36_8.wp P Q a σ = ACode.wp P (.ops [
    ⟨(some 11), none, .q (.mv (.t 4)), []⟩,
    ⟨(some 12), none, .q (.mv (.t 0)), []⟩,
    ⟨(some 13), none, .q (.bin .lss (.t 11) (.t 12)), []⟩]) Q a σ := id rfl
@[go_sem] theorem c36_9_wp (P : Program) (Q : APost) (a : AFr) (σ : ASt) : c36_9.wp P Q a σ = ACode.wp P (.cond (.t 13) .skip (.exit 0)) Q a σ := id rfl
@[go_sem] theorem c36_10_wp (P : Program) (Q : APost) (a : AFr) (σ : ASt) : c36_10.wp P Q a σ = ACode.wp P (.seq c36_8 c36_9) Q a σ := id rfl
@[go_sem] theorem c36_11_wp (P : Program) (Q : APost) (a : AFr) (σ : ASt) : c36_11.wp P Q a σ = ACode.wp P (.ops [
    ⟨(some 16), none, .q (.mv (.t 3)), []⟩,
    ⟨(some 17), none, .e (.call 45 [(.t 16)]), []⟩,
    ⟨(some 3), none, .q (.mv (.t 17)), []⟩]) Q a σ := id rfl
@[go_sem] theorem c36_12_wp (P : Program) (Q : APost) (a : AFr) (σ : ASt) : c36_12.wp P Q a σ = ACode.wp P (.block 1 c36_11) Q a σ := id rfl
@[go_sem] theorem c36_13_wp (P : Program) (Q : APost) (a : AFr) (σ : ASt) : c36_13.wp P Q a σ = ACode.wp P (.ops [
    ⟨(some 14), none, .q (.mv (.t 4)), []⟩,
    ⟨(some 15), none, .q (.bin .add (.t 14) (.v (.int .i64 1))), []⟩,
    ⟨(some 4), none, .q (.mv (.t 15)), []⟩]) Q a σ := id rfl
@[go_sem] theorem c36_14_wp (P : Program) (Q : APost) (a : AFr) (σ : ASt) : c36_14.wp P Q a σ = ACode.wp P (.seq c36_12 c36_13) Q a σ := id rfl
@[go_sem] theorem c36_15_wp (P : Program) (Q : APost) (a : AFr) (σ : ASt) : c36_15.wp P Q a σ = ACode.wp P (.seq c36_10 c36_14) Q a σ := id rfl
@[go_sem] theorem c36_16_wp (P : Program) (Q : APost) (a : AFr) (σ : ASt) : c36_16.wp P Q a σ = ACode.wp P (.loop c36_15) Q a σ := id rfl
@[go_sem] theorem c36_17_wp (P : Program) (Q : APost) (a : AFr) (σ : ASt) : c36_17.wp P Q a σ = ACode.wp P (.block 0 c36_16) Q a σ := id rfl
@[go_sem] theorem c36_18_wp (P : Program) (Q : APost) (a : AFr) (σ : ASt) : c36_18.wp P Q a σ = ACode.wp P (.seq c36_7 c36_17) Q a σ := id rfl
@[go_sem] theorem c36_19_wp (P : Program) (Q : APost) (a : AFr) (σ : ASt) : c36_19.wp P Q a σ = ACode.wp P (.ops [
    ⟨(some 18), none, .q (.mv (.t 3)), []⟩,
    ⟨(some 2), none, .q (.mv (.t 18)), []⟩]) Q a σ := id rfl
@[go_sem] theorem c36_20_wp (P : Program) (Q : APost) (a : AFr) (σ : ASt) : c36_20.wp P Q a σ = ACode.wp P (.seq c36_19 .ret) Q a σ := id rfl
@[go_sem] theorem c36_21_wp (P : Program) (Q : APost) (a : AFr) (σ : ASt) : c36_21.wp P Q a σ = ACode.wp P (.seq c36_18 c36_20) Q a σ := id rfl
@[go_sem] theorem c36_22_wp (P : Program) (Q : APost) (a : AFr) (σ : ASt) : c36_22.wp P Q a σ = ACode.wp P (.seq c36_6 c36_21) Q a σ := id rfl
@[go_sem] theorem c36_23_wp (P : Program) (Q : APost) (a : AFr) (σ : ASt) : c36_23.wp P Q a σ = ACode.wp P (.seq c36_5 c36_22) Q a σ := id rfl
@[go_sem] theorem c36_24_wp (P : Program) (Q : APost) (a : AFr) (σ : ASt) : c36_24.wp P Q a σ = ACode.wp P (.seq c36_0 c36_23) Q a σ := id rfl
def c36 : AFn := ⟨19, [.t 2], c36_24⟩
set_option maxRecDepth 100000 in
theorem c36_ok : compF Tryd.prog Tryd.f36 = some c36 := by kernel_rfl
theorem a36 {args : List AV} {σ : ASt} {R : AV → ASt → Prop} (hl : args.length ≤ 19) (h : c36_24.wp Tryd.prog (RetQ [.t 2] R) (init args) σ) : ACalls Tryd.prog 36 args σ R := acalls_of Tryd.func36 c36_ok hl h

/-! 37: tabular/tabularref01.Digits -/
def c37_0 : ACode := .ops [
    ⟨(some 2), none, .q (.mv (.v (.str []))), []⟩]
def c37_1 : ACode := .ops [
    ⟨(some 3), none, .q (.mv (.v (.str []))), []⟩]
def c37_2 : ACode := .ops [
    ⟨(some 4), none, .q (.mv (.v (.int .i64 0))), []⟩]
def c37_3 : ACode := .ops [
    ⟨(some 5), none, .q (.mv (.t 4)), []⟩,
    ⟨(some 6), none, .q (.bin .lss (.t 5) (.v (.int .i64 20))), []⟩,
    ⟨(some 7), none, .q (.mv (.t 6)), []⟩,
    ⟨(some 8), (some (7, true)), .q (.mv (.t 4)), []⟩,
    ⟨(some 9), (some (7, true)), .q (.bin .eql (.t 8) (.v (.int .i64 0))), []⟩,
    ⟨(some 10), (some (7, true)), .q (.mv (.t 9)), []⟩,
    ⟨(some 11), (some (10, false)), .q (.mv (.t 0)), []⟩,
    ⟨(some 12), (some (10, false)), .q (.bin .gtr (.t 11) (.v (.int .u64 0))), []⟩,
    ⟨(some 13), (some (7, true)), .q (.pick (.t 10) (.v (.bool true)) (.t 12)), []⟩,
    ⟨(some 14), none, .q (.pick (.t 7) (.t 13) (.v (.bool false))), []⟩]
def c37_4 : ACode := .cond (.t 14) .skip (.exit 0)
def c37_5 : ACode := .seq c37_3 c37_4
def c37_6 : ACode := .ops [
    ⟨(some 17), none, .q (.mv (.t 0)), []⟩,
    ⟨(some 18), none, .q (.bin .rem (.t 17) (.v (.int .u64 10))), []⟩,
    ⟨(some 19), none, .q (.bin .add (.v (.int .u64 48)) (.t 18)), []⟩,
    ⟨(some 20), none, .q (.conv .u8 (.t 19)), []⟩,
    ⟨(some 21), none, .q (.bsl 1 [(.t 20)]), []⟩,
    ⟨(some 22), none, .q (.b2s (.t 21)), []⟩,
    ⟨(some 23), none, .q (.mv (.t 3)), []⟩,
    ⟨(some 24), none, .q (.bin .add (.t 22) (.t 23)), []⟩,
    ⟨(some 3), none, .q (.mv (.t 24)), []⟩]
def c37_7 : ACode := .ops [
    ⟨(some 25), none, .q (.mv (.t 0)), []⟩,
    ⟨(some 26), none, .q (.bin .quo (.t 25) (.v (.int .u64 10))), []⟩,
    ⟨(some 0), none, .q (.mv (.t 26)), []⟩]
def c37_8 : ACode := .seq c37_6 c37_7
def c37_9 : ACode := .block 1 c37_8
def c37_10 : ACode := .ops [
    ⟨(some 15), none, .q (.mv (.t 4)), []⟩,
    ⟨(some 16), none, .q (.bin .add (.t 15) (.v (.int .i64 1))), []⟩,
    ⟨(some 4), none, .q (.mv (.t 16)), []⟩]
def c37_11 : ACode := .seq c37_9 c37_10
def c37_12 : ACode := .seq c37_5 c37_11
def c37_13 : ACode := .loop c37_12
def c37_14 : ACode := .block 0 c37_13
def c37_15 : ACode := .seq c37_2 c37_14
def c37_16 : ACode := .ops [
    ⟨(some 27), none, .q (.mv (.t 3)), []⟩,
    ⟨(some 2), none, .q (.mv (.t 27)), []⟩]
def c37_17 : ACode := .seq c37_16 .ret
def c37_18 : ACode := .seq c37_15 c37_17
def c37_19 : ACode := .seq c37_1 c37_18
def c37_20 : ACode := .seq c37_0 c37_19
@[go_sem] theorem c37_0_wp (P : Program) (Q : APost) (a : AFr) (σ : ASt) : c37_0.wp P Q a σ = ACode.wp P (.ops [
    ⟨(some 2), none, .q (.mv (.v (.str []))), []⟩]) Q a σ := id rfl
@[go_sem] theorem c37_1_wp (P : Program) (Q : APost) (a : AFr) (σ : ASt) : c37_1.wp P Q a σ = ACode.wp P (.ops [
    ⟨(some 3), none, .q (.mv (.v (.str []))), []⟩]) Q a σ := id rfl
@[go_sem] theorem c37_2_wp (P : Program) (Q : APost) (a : AFr) (σ : ASt) : c37_2.wp P Q a σ = ACode.wp P (.ops [
    ⟨(some 4), none, .q (.mv (.v (.int .i64 0))), []⟩]) Q a σ := id rfl
@[go_sem] theorem c37_3_wp (P : Program) (Q : APost) (a : AFr) (σ : ASt) : c37_3.wp P Q a σ = ACode.wp P (.ops [
    ⟨(some 5), none, .q (.mv (.t 4)), []⟩,
    ⟨(some 6), none, .q (.bin .lss (.t 5) (.v (.int .i64 20))), []⟩,
    ⟨(some 7), none, .q (.mv (.t 6)), []⟩,
    ⟨(some 8), (some (7, true)), .q (.mv (.t 4)), []⟩,
    ⟨(some 9), (some (7, true)), .q (.bin .eql (.t 8) (.v (.int .i64 0))), []⟩,
    ⟨(some 10), (some (7, true)), .q (.mv (.t 9)), []⟩,
    ⟨(some 11), (some (10, false)), .q (.mv (.t 0)), []⟩,
    ⟨(some 12), (some (10, false)), .q (.bin .gtr (.t 11) (.v (.int .u64 0))), []⟩,
    ⟨(some 13), (some (7, true)), .q (.pick (.t 10) (.v (.bool true)) (.t 12)), []⟩,
    ⟨(some 14), none, .q (.pick (.t 7) (.t 13) (.v (.bool false))), []⟩]) Q a σ := id rfl
@[go_sem] theorem c37_4_wp (P : Program) (Q : APost) (a : AFr) (σ : ASt) : c37_4.wp P Q a σ = ACode.wp P (.cond (.t 14) .skip (.exit 0)) Q a σ := id rfl
@[go_sem] theorem c37_5_wp (P : Program) (Q : APost) (a : AFr) (σ : ASt) : c37_5.wp P Q a σ = ACode.wp P (.seq c37_3 c37_4) Q a σ := id rfl
@[go_sem] theorem c37_6_wp (P : Program) (Q : APost) (a : AFr) (σ : ASt) : c37_6.wp P Q a σ = ACode.wp P (.ops [
    ⟨(some 17), none, .q (.mv (.t 0)), []⟩,
    ⟨(some 18), none, .q (.bin .rem (.t 17) (.v (.int .u64 10))), []⟩,
    ⟨(some 19), none, .q (.bin .add (.v (.int .u64 48)) (.t 18)), []⟩,
    ⟨(some 20), none, .q (.conv .u8 (.t 19)), []⟩,
    ⟨(some 21), none, .q (.bsl 1 [(.t 20)]), []⟩,
    ⟨(some 22), none, .q (.b2s (.t 21)), []⟩,
    ⟨(some 23), none, .q (.mv (.t 3)), []⟩,
    ⟨(some 24), none, .q (.bin .add (.t 22) (.t 23)), []⟩,
    ⟨(some 3), none, .q (.mv (.t 24)), []⟩]) Q a σ := id rfl
@[go_sem] theorem c37_7_wp (P : Program) (Q : APost) (a : AFr) (σ : ASt) : c37_7.wp P Q a σ = ACode.wp P (.ops [
    ⟨(some 25), none, .q (.mv (.t 0)), []⟩,
    ⟨(some 26), none, .q (.bin .quo (.t 25) (.v (.int .u64 10))), []⟩,
    ⟨(some 0), none, .q (.mv (.t 26)), []⟩]) Q a σ := id rfl
@[go_sem] theorem c37_8_wp (P : Program) (Q : APost) (a : AFr) (σ : ASt) : c37_8.wp P Q a σ = ACode.wp P (.seq c37_6 c37_7) Q a σ := id rfl
@[go_sem] theorem c37_9_wp (P : Program) (Q : APost) (a : AFr) (σ : ASt) : c37_9.wp P Q a σ = ACode.wp P (.block 1 c37_8) Q a σ := id rfl
@[go_sem] theorem c37_10_wp (P : Program) (Q : APost) (a : AFr) (σ : ASt) : c37_10.wp P Q a σ = ACode.wp P (.ops [
    ⟨(some 15), none, .q (.mv (.t 4)), []⟩,
    ⟨(some 16), none, .q (.bin .add (.t 15) (.v (.int .i64 1))), []⟩,
    ⟨(some 4), none, .q (.mv (.t 16)), []⟩]) Q a σ := id rfl
@[go_sem] theorem c37_11_wp (P : Program) (Q : APost) (a : AFr) (σ : ASt) : c37_11.wp P Q a σ = ACode.wp P (.seq c37_9 c37_10) Q a σ := id rfl
@[go_sem] theorem c37_12_wp (P : Program) (Q : APost) (a : AFr) (σ : ASt) : c37_12.wp P Q a σ = ACode.wp P (.seq c37_5 c37_11) Q a σ := id rfl
@[go_sem] theorem c37_13_wp (P : Program) (Q : APost) (a : AFr) (σ : ASt) : c37_13.wp P Q a σ = ACode.wp P (.loop c37_12) Q a σ := id rfl
@[go_sem] theorem c37_14_wp (P : Program) (Q : APost) (a : AFr) (σ : ASt) : c37_14.wp P Q a σ = ACode.wp P (.block 0 c37_13) Q a σ := id rfl
@[go_sem] theorem c37_15_wp (P : Program) (Q : APost) (a : AFr) (σ : ASt) : c37_15.wp P Q a σ = ACode.wp P (.seq c37_2 c37_14) Q a σ := id rfl
@[go_sem] theorem c37_16_wp (P : Program) (Q : APost) (a : AFr) (σ : ASt) : c37_16.wp P Q a σ = ACode.wp P (.ops [
    ⟨(some 27), none, .q (.mv (.t 3)), []⟩,
    ⟨(some 2), none, .q (.mv (.t 27)), []⟩]) Q a σ := id rfl
@[go_sem] theorem c37_17_wp (P : Program) (Q : APost) (a : AFr) (σ : ASt) : c37_17.wp P Q a σ = ACode.wp P (.seq c37_16 .ret) Q a σ := id rfl
@[go_sem] theorem c37_18_wp (P : Program) (Q : APost) (a : AFr) (σ : ASt) : c37_18.wp P Q a σ = ACode.wp P (.seq c37_15 c37_17) Q a σ := id rfl
@[go_sem] theorem c37_19_wp (P : Program) (Q : APost) (a : AFr) (σ : ASt) : c37_19.wp P Q a σ = ACode.wp P (.seq c37_1 c37_18) Q a σ := id rfl
@[go_sem] theorem c37_20_wp (P : Program) (Q : APost) (a : AFr) (σ : ASt) : c37_20.wp P Q a σ = ACode.wp P (.seq c37_0 c37_19) Q a σ := id rfl
def c37 : AFn := ⟨28, [.t 2], c37_20⟩
set_option maxRecDepth 100000 in
theorem c37_ok : compF Tryd.prog Tryd.f37 = some c37 := by kernel_rfl
theorem a37 {args : List AV} {σ : ASt} {R : AV → ASt → Prop} (hl : args.length ≤ 28) (h : c37_20.wp Tryd.prog (RetQ [.t 2] R) (init args) σ) : ACalls Tryd.prog 37 args σ R := acalls_of Tryd.func37 c37_ok hl h

/-! 44: tabular/tabularref10.Great -/
def c44_0 : ACode := .ops [
    ⟨(some 2), none, .q (.mv (.v (.str []))), []⟩]
def c44_1 : ACode := .ops [
    ⟨(some 5), none, .q (.mv (.t 0)), []⟩,
    ⟨(some 6), none, .e (.s2b (.t 5)), []⟩,
    ⟨(some 3), none, .q (.mv (.t 6)), []⟩]
def c44_2 : ACode := .ops [
    ⟨(some 7), none, .q (.mv (.t 3)), []⟩,
    ⟨(some 8), none, .q (.len (.t 7)), []⟩,
    ⟨(some 9), none, .q (.mv (.v (.int .i64 0))), []⟩]
def c44_3 : ACode := .ops [
    ⟨(some 10), none, .q (.bin .lss (.t 9) (.t 8)), []⟩]
def c44_4 : ACode := .cond (.t 10) .skip (.exit 0)
def c44_5 : ACode := .ops [
    ⟨(some 11), none, .q (.mv (.t 9)), []⟩,
    ⟨(some 4), none, .q (.mv (.t 11)), []⟩]
def c44_6 : ACode := .ops [
    ⟨(some 12), none, .q (.mv (.t 3)), []⟩,
    ⟨(some 13), none, .q (.mv (.t 4)), []⟩,
    ⟨(some 14), none, .q (.ia 1 (.t 12) (.t 13)), []⟩,
    ⟨(some 15), none, .q (.ld none (.t 14)), []⟩,
    ⟨(some 16), none, .q (.bin .geq (.t 15) (.v (.int .u8 97))), []⟩,
    ⟨(some 17), none, .q (.mv (.t 16)), []⟩,
    ⟨(some 18), (some (17, true)), .q (.mv (.t 3)), []⟩,
    ⟨(some 19), (some (17, true)), .q (.mv (.t 4)), []⟩,
    ⟨(some 20), (some (17, true)), .q (.ia 1 (.t 18) (.t 19)), []⟩,
    ⟨(some 21), (some (17, true)), .q (.ld none (.t 20)), []⟩,
    ⟨(some 22), (some (17, true)), .q (.bin .leq (.t 21) (.v (.int .u8 122))), []⟩,
    ⟨(some 23), none, .q (.pick (.t 17) (.t 22) (.v (.bool false))), []⟩]
def c44_7 : ACode := .ops [
    ⟨(some 24), none, .q (.mv (.t 3)), []⟩,
    ⟨(some 25), none, .q (.mv (.t 4)), []⟩,
    ⟨(some 26), none, .q (.ia 1 (.t 24) (.t 25)), []⟩,
    ⟨(some 27), none, .q (.ld none (.t 26)), []⟩,
    ⟨(some 28), none, .q (.bin .sub (.t 27) (.v (.int .u8 32))), []⟩,
    ⟨(some 29), none, .q (.ia 1 (.t 24) (.t 25)), []⟩,
    ⟨none, none, .e (.store 1 (.t 29) (.t 28)), []⟩]
def c44_8 : ACode := .cond (.t 23) c44_7 .skip
def c44_9 : ACode := .seq c44_6 c44_8
def c44_10 : ACode := .seq c44_5 c44_9
def c44_11 : ACode := .block 1 c44_10
def c44_12 : ACode := .ops [
    ⟨(some 30), none, .q (.bin .add (.t 9) (.v (.int .i64 1))), []⟩,
    ⟨(some 9), none, .q (.mv (.t 30)), []⟩]
def c44_13 : ACode := .seq c44_11 c44_12
def c44_14 : ACode := .seq c44_4 c44_13
def c44_15 : ACode := .seq c44_3 c44_14
def c44_16 : ACode := .loop c44_15
def c44_17 : ACode := .block 0 c44_16
def c44_18 : ACode := .seq c44_2 c44_17
def c44_19 : ACode := .ops [
    ⟨(some 31), none, .q (.mv (.t 3)), []⟩,
    ⟨(some 32), none, .q (.b2s (.t 31)), []⟩,
    ⟨(some 2), none, .q (.mv (.t 32)), []⟩]
def c44_20 : ACode := .seq c44_19 .ret
def c44_21 : ACode := .seq c44_18 c44_20
def c44_22 : ACode := .seq c44_1 c44_21
def c44_23 : ACode := .seq c44_0 c44_22
@[go_sem] theorem c44_0_wp (P : Program) (Q : APost) (a : AFr) (σ : ASt) : c44_0.wp P Q a σ = ACode.wp P (.ops [
    ⟨(some 2), none, .q (.mv (.v (.str []))), []⟩]) Q a σ := id rfl
@[go_sem] theorem c44_1_wp (P : Program) (Q : APost) (a : AFr) (σ : ASt) : c44_1.wp P Q a σ = ACode.wp P (.ops [
    ⟨(some 5), none, .q (.mv (.t 0)), []⟩,
    ⟨(some 6), none, .e (.s2b (.t 5)), []⟩,
    ⟨(some 3), none, .q (.mv (.t 6)), []⟩]) Q a σ := id rfl
@[go_sem] theorem c44_2_wp (P : Program) (Q : APost) (a : AFr) (σ : ASt) : c44_2.wp P Q a σ = ACode.wp P (.ops [
    ⟨(some 7), none, .q (.mv (.t 3)), []⟩,
    ⟨(some 8), none, .q (.len (.t 7)), []⟩,
    ⟨(some 9), none, .q (.mv (.v (.int .i64 0))), []⟩]) Q a σ := id rfl
@[go_sem] theorem c44_3_wp (P : Program) (Q : APost) (a : AFr) (σ : ASt) : c44_3.wp P Q a σ = ACode.wp P (.ops [
    ⟨(some 10), none, .q (.bin .lss (.t 9) (.t 8)), []⟩]) Q a σ := id rfl
@[go_sem] theorem c44_4_wp (P : Program) (Q : APost) (a : AFr) (σ : ASt) : c44_4.wp P Q a σ = ACode.wp P (.cond (.t 10) .skip (.exit 0)) Q a σ := id rfl
@[go_sem] theorem c44_5_wp (P : Program) (Q : APost) (a : AFr) (σ : ASt) : c44_5.wp P Q a σ = ACode.wp P (.ops [
    ⟨(some 11), none, .q (.mv (.t 9)), []⟩,
    ⟨(some 4), none, .q (.mv (.t 11)), []⟩]) Q a σ := id rfl
@[go_sem] theorem c44_6_wp (P : Program) (Q : APost) (a : AFr) (σ : ASt) : c44_6.wp P Q a σ = ACode.wp P (.ops [
    ⟨(some 12), none, .q (.mv (.t 3)), []⟩,
    ⟨(some 13), none, .q (.mv (.t 4)), []⟩,
    ⟨(some 14), none, .q (.ia 1 (.t 12) (.t 13)), []⟩,
    ⟨(some 15), none, .q (.ld none (.t 14)), []⟩,
    ⟨(some 16), none, .q (.bin .geq (.t 15) (.v (.int .u8 97))), []⟩,
    ⟨(some 17), none, .q (.mv (.t 16)), []⟩,
    ⟨(some 18), (some (17, true)), .q (.mv (.t 3)), []⟩,
    ⟨(some 19), (some (17, true)), .q (.mv (.t 4)), []⟩,
    ⟨(some 20), (some (17, true)), .q (.ia 1 (.t 18) (.t 19)), []⟩,
    ⟨(some 21), (some (17, true)), .q (.ld none (.t 20)), []⟩,
    ⟨(some 22), (some (17, true)), .q (.bin .leq (.t 21) (.v (.int .u8 122))), []⟩,
    ⟨(some 23), none, .q (.pick (.t 17) (.t 22) (.v (.bool false))), []⟩]) Q a σ := id rfl
@[go_sem] theorem c44_7_wp (P : Program) (Q : APost) (a : AFr) (σ : ASt) : c44_7.wp P Q a σ = ACode.wp P (.ops [
    ⟨(some 24), none, .q (.mv (.t 3)), []⟩,
    ⟨(some 25), none, .q (.mv (.t 4)), []⟩,
    ⟨(some 26), none, .q (.ia 1 (.t 24) (.t 25)), []⟩,
    ⟨(some 27), none, .q (.ld none (.t 26)), []⟩,
    ⟨(some 28), none, .q (.bin .sub (.t 27) (.v (.int .u8 32))), []⟩,
    ⟨(some 29), none, .q (.ia 1 (.t 24) (.t 25)), []⟩,
    ⟨none, none, .e (.store 1 (.t 29) (.t 28)), []⟩]) Q a σ := id rfl
@[go_sem] theorem c44_8_wp (P : Program) (Q : APost) (a : AFr) (σ : ASt) : c44_8.wp P Q a σ = ACode.wp P (.cond (.t 23) c44_7 .skip) Q a σ := id rfl
@[go_sem] theorem c44_9_wp (P : Program) (Q : APost) (a : AFr) (σ : ASt) : c44_9.wp P Q a σ = ACode.wp P (.seq c44_6 c44_8) Q a σ := id rfl
@[go_sem] theorem c44_10_wp (P : Program) (Q : APost) (a : AFr) (σ : ASt) : c44_10.wp P Q a σ = ACode.wp P (.seq c44_5 c44_9) Q a σ := id rfl
@[go_sem] theorem c44_11_wp (P : Program) (Q : APost) (a : AFr) (σ : ASt) : c44_11.wp P Q a σ = ACode.wp P (.block 1 c44_10) Q a σ := id rfl
@[go_sem] theorem c44_12_wp (P : Program) (Q : APost) (a : AFr) (σ : ASt) : c44_12.wp P Q a σ = ACode.wp P (.ops [
    ⟨(some 30), none, .q (.bin .add (.t 9) (.v (.int .i64 1))), []⟩,
    ⟨(some 9), none, .q (.mv (.t 30)), []⟩]) Q a σ := id rfl
@[go_sem] theorem c44_13_wp (P : Program) (Q : APost) (a : AFr) (σ : ASt) : c44_13.wp P Q a σ = ACode.wp P (.seq c44_11 c44_12) Q a σ := id rfl
@[go_sem] theorem c44_14_wp (P : Program) (Q : APost) (a : AFr) (σ : ASt) : c44_14.wp P Q a σ = ACode.wp P (.seq c44_4 c44_13) Q a σ := id rfl
@[go_sem] theorem c44_15_wp (P : Program) (Q : APost) (a : AFr) (σ : ASt) : c44_15.wp P Q a σ = ACode.wp P (.seq c44_3 c44_14) Q a σ := id rfl
@[go_sem] theorem c44_16_wp (P : Program) (Q : APost) (a : AFr) (σ : ASt) : c44_16.wp P Q a σ = ACode.wp P (.loop c44_15) Q a σ := id rfl
@[go_sem] theorem c44_17_wp (P : Program) (Q : APost) (a : AFr) (σ : ASt) : c44_17.wp P Q a σ = ACode.wp P (.block 0 c44_16) Q a σ := id rfl
@[go_sem] theorem c44_18_wp (P : Program) (Q : APost) (a : AFr) (σ : ASt) : c44_18.wp P Q a σ = ACode.wp P (.seq c44_2 c44_17) Q a σ := id rfl
@[go_sem] theorem c44_19_wp (P : Program) (Q : APost) (a : AFr) (σ : ASt) : c44_19.wp P Q a σ = ACode.wp P (.ops [
    ⟨(some 31), none, .q (.mv (.t 3)), []⟩,
    ⟨(some 32), none, .q (.b2s (.t 31)), []⟩,
    ⟨(some 2), none, .q (.mv (.t 32)), []⟩]) Q a σ := id rfl
@[go_sem] theorem c44_20_wp (P : Program) (Q : APost) (a : AFr) (σ : ASt) : c44_20.wp P Q a σ = ACode.wp P (.seq c44_19 .ret) Q a σ := id rfl
@[go_sem] theorem c44_21_wp (P : Program) (Q : APost) (a : AFr) (σ : ASt) : c44_21.wp P Q a σ = ACode.wp P (.seq c44_18 c44_20) Q a σ := id rfl
@[go_sem] theorem c44_22_wp (P : Program) (Q : APost) (a : AFr) (σ : ASt) : c44_22.wp P Q a σ = ACode.wp P (.seq c44_1 c44_21) Q a σ := id rfl
@[go_sem] theorem c44_23_wp (P : Program) (Q : APost) (a : AFr) (σ : ASt) : c44_23.wp P Q a σ = ACode.wp P (.seq c44_0 c44_22) Q a σ := id rfl
def c44 : AFn := ⟨33, [.t 2], c44_23⟩
set_option maxRecDepth 100000 in
theorem c44_ok : compF Tryd.prog Tryd.f44 = some c44 := by kernel_rfl
theorem a44 {args : List AV} {σ : ASt} {R : AV → ASt → Prop} (hl : args.length ≤ 33) (h : c44_23.wp Tryd.prog (RetQ [.t 2] R) (init args) σ) : ACalls Tryd.prog 44 args σ R := acalls_of Tryd.func44 c44_ok hl h

/-! 45: tabular/tabularref10.Next -/
def c45_0 : ACode := .ops [
    ⟨(some 2), none, .q (.mv (.v (.str []))), []⟩]
def c45_1 : ACode := .ops [
    ⟨(some 5), none, .q (.mv (.t 0)), []⟩,
    ⟨(some 6), none, .e (.s2b (.t 5)), []⟩,
    ⟨(some 3), none, .q (.mv (.t 6)), []⟩]
def c45_2 : ACode := .ops [
    ⟨(some 7), none, .q (.mv (.t 3)), []⟩,
    ⟨(some 8), none, .q (.len (.t 7)), []⟩,
    ⟨(some 9), none, .q (.bin .sub (.t 8) (.v (.int .i64 1))), []⟩,
    ⟨(some 4), none, .q (.mv (.t 9)), []⟩]
def c45_3 : ACode := .ops [
    ⟨(some 10), none, .q (.mv (.t 4)), []⟩,
    ⟨(some 11), none, .q (.bin .geq (.t 10) (.v (.int .i64 0))), []⟩]
def c45_4 : ACode := .cond (.t 11) .skip (.exit 0)
def c45_5 : ACode := .seq c45_3 c45_4
def c45_6 : ACode := .ops [
    ⟨(some 14), none, .q (.mv (.t 3)), []⟩,
    ⟨(some 15), none, .q (.mv (.t 4)), []⟩,
    ⟨(some 16), none, .q (.ia 1 (.t 14) (.t 15)), []⟩,
    ⟨(some 17), none, .q (.ld none (.t 16)), []⟩,
    ⟨(some 18), none, .q (.bin .lss (.t 17) (.v (.int .u8 90))), []⟩]
def c45_7 : ACode := .ops [
    ⟨(some 19), none, .q (.mv (.t 3)), []⟩,
    ⟨(some 20), none, .q (.mv (.t 4)), []⟩,
    ⟨(some 21), none, .q (.ia 1 (.t 19) (.t 20)), []⟩,
    ⟨(some 22), none, .q (.ld none (.t 21)), []⟩,
    ⟨(some 23), none, .q (.bin .add (.t 22) (.v (.int .u8 1))), []⟩,
    ⟨(some 24), none, .q (.ia 1 (.t 19) (.t 20)), []⟩,
    ⟨none, none, .e (.store 1 (.t 24) (.t 23)), []⟩]
def c45_8 : ACode := .ops [
    ⟨(some 25), none, .q (.mv (.t 3)), []⟩,
    ⟨(some 26), none, .q (.b2s (.t 25)), []⟩,
    ⟨(some 2), none, .q (.mv (.t 26)), []⟩]
def c45_9 : ACode := .seq c45_8 .ret
def c45_10 : ACode := .seq c45_7 c45_9
def c45_11 : ACode := .cond (.t 18) c45_10 .skip
def c45_12 : ACode := .seq c45_6 c45_11
def c45_13 : ACode := .ops [
    ⟨(some 27), none, .q (.mv (.t 3)), []⟩,
    ⟨(some 28), none, .q (.mv (.t 4)), []⟩,
    ⟨(some 29), none, .q (.ia 1 (.t 27) (.t 28)), []⟩,
    ⟨none, none, .e (.store 1 (.t 29) (.v (.int .u8 65))), []⟩]
def c45_14 : ACode := .seq c45_12 c45_13
def c45_15 : ACode := .block 1 c45_14
def c45_16 : ACode := .ops [
    ⟨(some 12), none, .q (.mv (.t 4)), []⟩,
    ⟨(some 13), none, .q (.bin .sub (.t 12) (.v (.int .i64 1))), []⟩,
    ⟨(some 4), none, .q (.mv (.t 13)), []⟩]
def c45_17 : ACode := .seq c45_15 c45_16
def c45_18 : ACode := .seq c45_5 c45_17
def c45_19 : ACode := .loop c45_18
def c45_20 : ACode := .block 0 c45_19
def c45_21 : ACode := .seq c45_2 c45_20
def c45_22 : ACode := .ops [
    ⟨(some 30), none, .q (.mv (.t 3)), []⟩,
    ⟨(some 31), none, .q (.b2s (.t 30)), []⟩,
    ⟨(some 32), none, .q (.bin .add (.v (.str [65])) (.t 31)), []⟩,
    ⟨(some 2), none, .q (.mv (.t 32)), []⟩]
def c45_23 : ACode := .seq c45_22 .ret
def c45_24 : ACode := .seq c45_21 c45_23
def c45_25 : ACode := .seq c45_1 c45_24
def c45_26 : ACode := .seq c45_0 c45_25
@[go_sem] theorem c45_0_wp (P : Program) (Q : APost) (a : AFr) (σ : ASt) : c45_0.wp P Q a σ = ACode.wp P (.ops [
    ⟨(some 2), none, .q (.mv (.v (.str []))), []⟩]) Q a σ := id rfl
@[go_sem] theorem c45_1_wp (P : Program) (Q : APost) (a : AFr) (σ : ASt) : c45_1.wp P Q a σ = ACode.wp P (.ops [
    ⟨(some 5), none, .q (.mv (.t 0)), []⟩,
    ⟨(some 6), none, .e (.s2b (.t 5)), []⟩,
    ⟨(some 3), none, .q (.mv (.t 6)), []⟩]) Q a σ := id rfl
@[go_sem] theorem c45_2_wp (P : Program) (Q : APost) (a : AFr) (σ : ASt) : c45_2.wp P Q a σ = ACode.wp P (.ops [
    ⟨(some 7), none, .q (.mv (.t 3)), []⟩,
    ⟨(some 8), none, .q (.len (.t 7)), []⟩,
    ⟨(some 9), none, .q (.bin .sub (.t 8) (.v (.int .i64 1))), []⟩,
    ⟨(some 4), none, .q (.mv (.t 9)), []⟩]) Q a σ := id rfl
@[go_sem] theorem c45_3_wp (P : Program) (Q : APost) (a : AFr) (σ : ASt) : c45_3.wp P Q a σ = ACode.wp P (.ops [
    ⟨(some 10), none, .q (.mv (.t 4)), []⟩,
    ⟨(some 11), none, .q (.bin .geq (.t 10) (.v (.int .i64 0))), []⟩]) Q a σ := id rfl
@[go_sem] theorem c45_4_wp (P : Program) (Q : APost) (a : AFr) (σ : ASt) : c45_4.wp P Q a σ = ACode.wp P (.cond (.t 11) .skip (.exit 0)) Q a σ := id rfl
@[go_sem] theorem c45_5_wp (P : Program) (Q : APost) (a : AFr) (σ : ASt) : c45_5.wp P Q a σ = ACode.wp P (.seq c45_3 c45_4) Q a σ := id rfl
@[go_sem] theorem c45_6_wp (P : Program) (Q : APost) (a : AFr) (σ : ASt) : c45_6.wp P Q a σ = ACode.wp P (.ops [
    ⟨(some 14), none, .q (.mv (.t 3)), []⟩,
    ⟨(some 15), none, .q (.mv (.t 4)), []⟩,
    ⟨(some 16), none, .q (.ia 1 (.t 14) (.t 15)), []⟩,
    ⟨(some 17), none, .q (.ld none (.t 16)), []⟩,
    ⟨(some 18), none, .q (.bin .lss (.t 17) (.v (.int .u8 90))), []⟩]) Q a σ := id rfl
@[go_sem] theorem c45_7_wp (P : Program) (Q : APost) (a : AFr) (σ : ASt) : c45_7.wp P Q a σ = ACode.wp P (.ops [
    ⟨(some 19), none, .q (.mv (.t 3)), []⟩,
    ⟨(some 20), none, .q (.mv (.t 4)), []⟩,
    ⟨(some 21), none, .q (.ia 1 (.t 19) (.t 20)), []⟩,
    ⟨(some 22), none, .q (.ld none (.t 21)), []⟩,
    ⟨(some 23), none, .q (.bin .add (.t 22) (.v (.int .u8 1))), []⟩,
    ⟨(some 24), none, .q (.ia 1 (.t 19) (.t 20)), []⟩,
    ⟨none, none, .e (.store 1 (.t 24) (.t 23)), []⟩]) Q a σ := id rfl
@[go_sem] theorem c45_8_wp (P : Program) (Q : APost) (a : AFr) (σ : ASt) : c45_8.wp P Q a σ = ACode.wp P (.ops [
    ⟨(some 25), none, .q (.mv (.t 3)), []⟩,
    ⟨(some 26), none, .q (.b2s (.t 25)), []⟩,
    ⟨(some 2), none, .q (.mv (.t 26)), []⟩]) Q a σ := id rfl
@[go_sem] theorem c45_9_wp (P : Program) (Q : APost) (a : AFr) (σ : ASt) : c45_9.wp P Q a σ = ACode.wp P (.seq c45_8 .ret) Q a σ := id rfl
@[go_sem] theorem c45_10_wp (P : Program) (Q : APost) (a : AFr) (σ : ASt) : c45_10.wp P Q a σ = ACode.wp P (.seq c45_7 c45_9) Q a σ := id rfl
@[go_sem] theorem c45_11_wp (P : Program) (Q : APost) (a : AFr) (σ : ASt) : c45_11.wp P Q a σ = ACode.wp P (.cond (.t 18) c45_10 .skip) Q a σ := id rfl
@[go_sem] theorem c45_12_wp (P : Program) (Q : APost) (a : AFr) (σ : ASt) : c45_12.wp P Q a σ = ACode.wp P (.seq c45_6 c45_11) Q a σ := id rfl
@[go_sem] theorem c45_13_wp (P : Program) (Q : APost) (a : AFr) (σ : ASt) : c45_13.wp P Q a σ = ACode.wp P (.ops [
    ⟨(some 27), none, .q (.mv (.t 3)), []⟩,
    ⟨(some 28), none, .q (.mv (.t 4)), []⟩,
    ⟨(some 29), none, .q (.ia 1 (.t 27) (.t 28)), []⟩,
    ⟨none, none, .e (.store 1 (.t 29) (.v (.int .u8 65))), []⟩]) Q a σ := id rfl
@[go_sem] theorem c45_14_wp (P : Program) (Q : APost) (a : AFr) (σ : ASt) : c45_14.wp P Q a σ = ACode.wp P (.seq c45_12 c45_13) Q a σ := id rfl
@[go_sem] theorem c45_15_wp (P : Program) (Q : APost) (a : AFr) (σ : ASt) : c45_15.wp P Q a σ = ACode.wp P (.block 1 c45_14) Q a σ := id rfl
@[go_sem] theorem c45_16_wp (P : Program) (Q : APost) (a : AFr) (σ : ASt) : c45_16.wp P Q a σ = ACode.wp P (.ops [
    ⟨(some 12), none, .q (.mv (.t 4)), []⟩,
    ⟨(some 13), none, .q (.bin .sub (.t 12) (.v (.int .i64 1))), []⟩,
    ⟨(some 4), none, .q (.mv (.t 13)), []⟩]) Q a σ := id rfl
@[go_sem] theorem c45_17_wp (P : Program) (Q : APost) (a : AFr) (σ : ASt) : c45_17.wp P Q a σ = ACode.wp P (.seq c45_15 c45_16) Q a σ := id rfl
@[go_sem] theorem c45_18_wp (P : Program) (Q : APost) (a : AFr) (σ : ASt) : c45_18.wp P Q a σ = ACode.wp P (.seq c45_5 c45_17) Q a σ := id rfl
@[go_sem] theorem c45_19_wp (P : Program) (Q : APost) (a : AFr) (σ : ASt) : c45_19.wp P Q a σ = ACode.wp P (.loop c45_18) Q a σ := id rfl
@[go_sem] theorem c45_20_wp (P : Program) (Q : APost) (a : AFr) (σ : ASt) : c45_20.wp P Q a σ = ACode.wp P (.block 0 c45_19) Q a σ := id rfl
@[go_sem] theorem c45_21_wp (P : Program) (Q : APost) (a : AFr) (σ : ASt) : c45_21.wp P Q a σ = ACode.wp P (.seq c45_2 c45_20) Q a σ := id rfl
@[go_sem] theorem c45_22_wp (P : Program) (Q : APost) (a : AFr) (σ : ASt) : c45_22.wp P Q a σ = ACode.wp P (.ops [
    ⟨(some 30), none, .q (.mv (.t 3)), []⟩,
    ⟨(some 31), none, .q (.b2s (.t 30)), []⟩,
    ⟨(some 32), none, .q (.bin .add (.v (.str [65])) (.t 31)), []⟩,
    ⟨(some 2), none, .q (.mv (.t 32)), []⟩]) Q a σ := id rfl
@[go_sem] theorem c45_23_wp (P : Program) (Q : APost) (a : AFr) (σ : ASt) : c45_23.wp P Q a σ = ACode.wp P (.seq c45_22 .ret) Q a σ := id rfl
@[go_sem] theorem c45_24_wp (P : Program) (Q : APost) (a : AFr) (σ : ASt) : c45_24.wp P Q a σ = ACode.wp P (.seq c45_21 c45_23) Q a σ := id rfl
@[go_sem] theorem c45_25_wp (P : Program) (Q : APost) (a : AFr) (σ : ASt) : c45_25.wp P Q a σ = ACode.wp P (.seq c45_1 c45_24) Q a σ := id rfl
@[go_sem] theorem c45_26_wp (P : Program) (Q : APost) (a : AFr) (σ : ASt) : c45_26.wp P Q a σ = ACode.wp P (.seq c45_0 c45_25) Q a σ := id rfl
def c45 : AFn := ⟨33, [.t 2], c45_26⟩
set_option maxRecDepth 100000 in
theorem c45_ok : compF Tryd.prog Tryd.f45 = some c45 := by kernel_rfl
theorem a45 {args : List AV} {σ : ASt} {R : AV → ASt → Prop} (hl : args.length ≤ 33) (h : c45_26.wp Tryd.prog (RetQ [.t 2] R) (init args) σ) : ACalls Tryd.prog 45 args σ R := acalls_of Tryd.func45 c45_ok hl h

/-! 86: math/bits.Len64 -/
def c86_0 : ACode := .ops [
    ⟨(some 2), none, .q (.mv (.v (.int .i64 0))), []⟩]
def c86_1 : ACode := .ops [
    ⟨(some 3), none, .q (.mv (.t 0)), []⟩,
    ⟨(some 4), none, .q (.bin .geq (.t 3) (.v (.int .u64 4294967296))), []⟩]
def c86_2 : ACode := .ops [
    ⟨(some 5), none, .q (.mv (.t 0)), []⟩,
    ⟨(some 6), none, .q (.bin .shr (.t 5) (.v (.int .u64 32))), []⟩,
    ⟨(some 0), none, .q (.mv (.t 6)), []⟩]
def c86_3 : ACode := .ops [
    ⟨(some 2), none, .q (.mv (.v (.int .i64 32))), []⟩]
def c86_4 : ACode := .seq c86_2 c86_3
def c86_5 : ACode := .cond (.t 4) c86_4 .skip
def c86_6 : ACode := .seq c86_1 c86_5
def c86_7 : ACode := .ops [
    ⟨(some 7), none, .q (.mv (.t 0)), []⟩,
    ⟨(some 8), none, .q (.bin .geq (.t 7) (.v (.int .u64 65536))), []⟩]
def c86_8 : ACode := .ops [
    ⟨(some 9), none, .q (.mv (.t 0)), []⟩,
    ⟨(some 10), none, .q (.bin .shr (.t 9) (.v (.int .u64 16))), []⟩,
    ⟨(some 0), none, .q (.mv (.t 10)), []⟩]
def c86_9 : ACode := .ops [
    ⟨(some 11), none, .q (.mv (.t 2)), []⟩,
    ⟨(some 12), none, .q (.bin .add (.t 11) (.v (.int .i64 16))), []⟩,
    ⟨(some 2), none, .q (.mv (.t 12)), []⟩]
def c86_10 : ACode := .seq c86_8 c86_9
def c86_11 : ACode := .cond (.t 8) c86_10 .skip
def c86_12 : ACode := .seq c86_7 c86_11
def c86_13 : ACode := .ops [
    ⟨(some 13), none, .q (.mv (.t 0)), []⟩,
    ⟨(some 14), none, .q (.bin .geq (.t 13) (.v (.int .u64 256))), []⟩]
def c86_14 : ACode := .ops [
    ⟨(some 15), none, .q (.mv (.t 0)), []⟩,
    ⟨(some 16), none, .q (.bin .shr (.t 15) (.v (.int .u64 8))), []⟩,
    ⟨(some 0), none, .q (.mv (.t 16)), []⟩]
def c86_15 : ACode := .ops [
    ⟨(some 17), none, .q (.mv (.t 2)), []⟩,
    ⟨(some 18), none, .q (.bin .add (.t 17) (.v (.int .i64 8))), []⟩,
    ⟨(some 2), none, .q (.mv (.t 18)), []⟩]
def c86_16 : ACode := .seq c86_14 c86_15
def c86_17 : ACode := .cond (.t 14) c86_16 .skip
def c86_18 : ACode := .seq c86_13 c86_17
def c86_19 : ACode := .ops [
    ⟨(some 19), none, .q (.mv (.t 2)), []⟩,
    ⟨(some 20), none, .q (.mv (.t 0)), []⟩,
    ⟨(some 21), none, .q (.conv .u8 (.t 20)), []⟩,
    ⟨(some 22), none, .q (.idx (.v (.str [0, 1, 2, 2, 3, 3, 3, 3, 4, 4, 4, 4, 4, 4, 4, 4, 5, 5, 5, 5, 5, 5, 5, 5, 5, 5, 5, 5, 5, 5, 5, 5, 6, 6, 6, 6, 6, 6, 6, 6, 6, 6, 6, 6, 6, 6, 6, 6, 6, 6, 6, 6, 6, 6, 6, 6, 6, 6, 6, 6, 6, 6, 6, 6, 7, 7, 7, 7, 7, 7, 7, 7, 7, 7, 7, 7, 7, 7, 7, 7, 7, 7, 7, 7, 7, 7, 7, 7, 7, 7, 7, 7, 7, 7, 7, 7, 7, 7, 7, 7, 7, 7, 7, 7, 7, 7, 7, 7, 7, 7, 7, 7, 7, 7, 7, 7, 7, 7, 7, 7, 7, 7, 7, 7, 7, 7, 7, 7, 8, 8, 8, 8, 8, 8, 8, 8, 8, 8, 8, 8, 8, 8, 8, 8, 8, 8, 8, 8, 8, 8, 8, 8, 8, 8, 8, 8, 8, 8, 8, 8, 8, 8, 8, 8, 8, 8, 8, 8, 8, 8, 8, 8, 8, 8, 8, 8, 8, 8, 8, 8, 8, 8, 8, 8, 8, 8, 8, 8, 8, 8, 8, 8, 8, 8, 8, 8, 8, 8, 8, 8, 8, 8, 8, 8, 8, 8, 8, 8, 8, 8, 8, 8, 8, 8, 8, 8, 8, 8, 8, 8, 8, 8, 8, 8, 8, 8, 8, 8, 8, 8, 8, 8, 8, 8, 8, 8, 8, 8, 8, 8, 8, 8, 8, 8, 8, 8, 8, 8, 8, 8, 8, 8, 8, 8, 8, 8])) (.t 21)), []⟩,
    ⟨(some 23), none, .q (.conv .i64 (.t 22)), []⟩,
    ⟨(some 24), none, .q (.bin .add (.t 19) (.t 23)), []⟩,
    ⟨(some 2), none, .q (.mv (.t 24)), []⟩]
def c86_20 : ACode := .seq c86_19 .ret
def c86_21 : ACode := .seq c86_18 c86_20
def c86_22 : ACode := .seq c86_12 c86_21
def c86_23 : ACode := .seq c86_6 c86_22
def c86_24 : ACode := .seq c86_0 c86_23
@[go_sem] theorem c86_0_wp (P : Program) (Q : APost) (a : AFr) (σ : ASt) : c86_0.wp P Q a σ = ACode.wp P (.ops [
    ⟨(some 2), none, .q (.mv (.v (.int .i64 0))), []⟩]) Q a σ := id rfl
@[go_sem] theorem c86_1_wp (P : Program) (Q : APost) (a : AFr) (σ : ASt) : c86_1.wp P Q a σ = ACode.wp P (.ops [
    ⟨(some 3), none, .q (.mv (.t 0)), []⟩,
    ⟨(some 4), none, .q (.bin .geq (.t 3) (.v (.int .u64 4294967296))), []⟩]) Q a σ := id rfl
@[go_sem] theorem c86_2_wp (P : Program) (Q : APost) (a : AFr) (σ : ASt) : c86_2.wp P Q a σ = ACode.wp P (.ops [
    ⟨(some 5), none, .q (.mv (.t 0)), []⟩,
    ⟨(some 6), none, .q (.bin .shr (.t 5) (.v (.int .u64 32))), []⟩,
    ⟨(some 0), none, .q (.mv (.t 6)), []⟩]) Q a σ := id rfl
@[go_sem] theorem c86_3_wp (P : Program) (Q : APost) (a : AFr) (σ : ASt) : c86_3.wp P Q a σ = ACode.wp P (.ops [
    ⟨(some 2), none, .q (.mv (.v (.int .i64 32))), []⟩]) Q a σ := id rfl
@[go_sem] theorem c86_4_wp (P : Program) (Q : APost) (a : AFr) (σ : ASt) : c86_4.wp P Q a σ = ACode.wp P (.seq c86_2 c86_3) Q a σ := id rfl
@[go_sem] theorem c86_5_wp (P : Program) (Q : APost) (a : AFr) (σ : ASt) : c86_5.wp P Q a σ = ACode.wp P (.cond (.t 4) c86_4 .skip) Q a σ := id rfl
@[go_sem] theorem c86_6_wp (P : Program) (Q : APost) (a : AFr) (σ : ASt) : c86_6.wp P Q a σ = ACode.wp P (.seq c86_1 c86_5) Q a σ := id rfl
@[go_sem] theorem c86_7_wp (P : Program) (Q : APost) (a : AFr) (σ : ASt) : c86_7.wp P Q a σ = ACode.wp P (.ops [
    ⟨(some 7), none, .q (.mv (.t 0)), []⟩,
    ⟨(some 8), none, .q (.bin .geq (.t 7) (.v (.int .u64 65536))), []⟩]) Q a σ := id rfl
@[go_sem] theorem c86_8_wp (P : Program) (Q : APost) (a : AFr) (σ : ASt) : c86_8.wp P Q a σ = ACode.wp P (.ops [
    ⟨(some 9), none, .q (.mv (.t 0)), []⟩,
    ⟨(some 10), none, .q (.bin .shr (.t 9) (.v (.int .u64 16))), []⟩,
    ⟨(some 0), none, .q (.mv (.t 10)), []⟩]) Q a σ := id rfl
@[go_sem] theorem c86_9_wp (P : Program) (Q : APost) (a : AFr) (σ : ASt) : c86_9.wp P Q a σ = ACode.wp P (.ops [
    ⟨(some 11), none, .q (.mv (.t 2)), []⟩,
    ⟨(some 12), none, .q (.bin .add (.t 11) (.v (.int .i64 16))), []⟩,
    ⟨(some 2), none, .q (.mv (.t 12)), []⟩]) Q a σ := id rfl
@[go_sem] theorem c86_10_wp (P : Program) (Q : APost) (a : AFr) (σ : ASt) : c86_10.wp P Q a σ = ACode.wp P (.seq c86_8 c86_9) Q a σ := id rfl
@[go_sem] theorem c86_11_wp (P : Program) (Q : APost) (a : AFr) (σ : ASt) : c86_11.wp P Q a σ = ACode.wp P (.cond (.t 8) c86_10 .skip) Q a σ := id rfl
@[go_sem] theorem c86_12_wp (P : Program) (Q : APost) (a : AFr) (σ : ASt) : c86_12.wp P Q a σ = ACode.wp P (.seq c86_7 c86_11) Q a σ := id rfl
@[go_sem] theorem c86_13_wp (P : Program) (Q : APost) (a : AFr) (σ : ASt) : c86_13.wp P Q a σ = ACode.wp P (.ops [
    ⟨(some 13), none, .q (.mv (.t 0)), []⟩,
    ⟨(some 14), none, .q (.bin .geq (.t 13) (.v (.int .u64 256))), []⟩]) Q a σ := id rfl
@[go_sem] theorem c86_14_wp (P : Program) (Q : APost) (a : AFr) (σ : ASt) : c86_14.wp P Q a σ = ACode.wp P (.ops [
    ⟨(some 15), none, .q (.mv (.t 0)), []⟩,
    ⟨(some 16), none, .q (.bin .shr (.t 15) (.v (.int .u64 8))), []⟩,
    ⟨(some 0), none, .q (.mv (.t 16)), []⟩]) Q a σ := id rfl
@[go_sem] theorem c86_15_wp (P : Program) (Q : APost) (a : AFr) (σ : ASt) : c86_15.wp P Q a σ = ACode.wp P (.ops [
    ⟨(some 17), none, .q (.mv (.t 2)), []⟩,
    ⟨(some 18), none, .q (.bin .add (.t 17) (.v (.int .i64 8))), []⟩,
    ⟨(some 2), none, .q (.mv (.t 18)), []⟩]) Q a σ := id rfl
@[go_sem] theorem c86_16_wp (P : Program) (Q : APost) (a : AFr) (σ : ASt) : c86_16.wp P Q a σ = ACode.wp P (.seq c86_14 c86_15) Q a σ := id rfl
@[go_sem] theorem c86_17_wp (P : Program) (Q : APost) (a : AFr) (σ : ASt) : c86_17.wp P Q a σ = ACode.wp P (.cond (.t 14) c86_16 .skip) Q a σ := id rfl
@[go_sem] theorem c86_18_wp (P : Program) (Q : APost) (a : AFr) (σ : ASt) : c86_18.wp P Q a σ = ACode.wp P (.seq c86_13 c86_17) Q a σ := id rfl
@[go_sem] theorem c86_19_wp (P : Program) (Q : APost) (a : AFr) (σ : ASt) : c86_19.wp P Q a σ = ACode.wp P (.ops [
    ⟨(some 19), none, .q (.mv (.t 2)), []⟩,
    ⟨(some 20), none, .q (.mv (.t 0)), []⟩,
    ⟨(some 21), none, .q (.conv .u8 (.t 20)), []⟩,
    ⟨(some 22), none, .q (.idx (.v (.str [0, 1, 2, 2, 3, 3, 3, 3, 4, 4, 4, 4, 4, 4, 4, 4, 5, 5, 5, 5, 5, 5, 5, 5, 5, 5, 5, 5, 5, 5, 5, 5, 6, 6, 6, 6, 6, 6, 6, 6, 6, 6, 6, 6, 6, 6, 6, 6, 6, 6, 6, 6, 6, 6, 6, 6, 6, 6, 6, 6, 6, 6, 6, 6, 7, 7, 7, 7, 7, 7, 7, 7, 7, 7, 7, 7, 7, 7, 7, 7, 7, 7, 7, 7, 7, 7, 7, 7, 7, 7, 7, 7, 7, 7, 7, 7, 7, 7, 7, 7, 7, 7, 7, 7, 7, 7, 7, 7, 7, 7, 7, 7, 7, 7, 7, 7, 7, 7, 7, 7, 7, 7, 7, 7, 7, 7, 7, 7, 8, 8, 8, 8, 8, 8, 8, 8, 8, 8, 8, 8, 8, 8, 8, 8, 8, 8, 8, 8, 8, 8, 8, 8, 8, 8, 8, 8, 8, 8, 8, 8, 8, 8, 8, 8, 8, 8, 8, 8, 8, 8, 8, 8, 8, 8, 8, 8, 8, 8, 8, 8, 8, 8, 8, 8, 8, 8, 8, 8, 8, 8, 8, 8, 8, 8, 8, 8, 8, 8, 8, 8, 8, 8, 8, 8, 8, 8, 8, 8, 8, 8, 8, 8, 8, 8, 8, 8, 8, 8, 8, 8, 8, 8, 8, 8, 8, 8, 8, 8, 8, 8, 8, 8, 8, 8, 8, 8, 8, 8, 8, 8, 8, 8, 8, 8, 8, 8, 8, 8, 8, 8, 8, 8, 8, 8, 8, 8])) (.t 21)), []⟩,
    ⟨(some 23), none, .q (.conv .i64 (.t 22)), []⟩,
    ⟨(some 24), none, .q (.bin .add (.t 19) (.t 23)), []⟩,
    ⟨(some 2), none, .q (.mv (.t 24)), []⟩]) Q a σ := id rfl
@[go_sem] theorem c86_20_wp (P : Program) (Q : APost) (a : AFr) (σ : ASt) : c86_20.wp P Q a σ = ACode.wp P (.seq c86_19 .ret) Q a σ := id rfl
@[go_sem] theorem c86_21_wp (P : Program) (Q : APost) (a : AFr) (σ : ASt) : c86_21.wp P Q a σ = ACode.wp P (.seq c86_18 c86_20) Q a σ := id rfl
@[go_sem] theorem c86_22_wp (P : Program) (Q : APost) (a : AFr) (σ : ASt) : c86_22.wp P Q a σ = ACode.wp P (.seq c86_12 c86_21) Q a σ := id rfl
@[go_sem] theorem c86_23_wp (P : Program) (Q : APost) (a : AFr) (σ : ASt) : c86_23.wp P Q a σ = ACode.wp P (.seq c86_6 c86_22) Q a σ := id rfl
@[go_sem] theorem c86_24_wp (P : Program) (Q : APost) (a : AFr) (σ : ASt) : c86_24.wp P Q a σ = ACode.wp P (.seq c86_0 c86_23) Q a σ := id rfl
def c86 : AFn := ⟨25, [.t 2], c86_24⟩
set_option maxRecDepth 100000 in
theorem c86_ok : compF Tryd.prog Tryd.f86 = some c86 := by kernel_rfl
theorem a86 {args : List AV} {σ : ASt} {R : AV → ASt → Prop} (hl : args.length ≤ 25) (h : c86_24.wp Tryd.prog (RetQ [.t 2] R) (init args) σ) : ACalls Tryd.prog 86 args σ R := acalls_of Tryd.func86 c86_ok hl h

/-! 99: math/bits.TrailingZeros64 -/
def c99_0 : ACode := .ops [
    ⟨(some 2), none, .q (.mv (.v (.int .i64 0))), []⟩]
def c99_1 : ACode := .ops [
    ⟨(some 3), none, .q (.mv (.t 0)), []⟩,
    ⟨(some 4), none, .q (.bin .eql (.t 3) (.v (.int .u64 0))), []⟩]
def c99_2 : ACode := .ops [
    ⟨(some 2), none, .q (.mv (.v (.int .i64 64))), []⟩]
def c99_3 : ACode := .seq c99_2 .ret
def c99_4 : ACode := .cond (.t 4) c99_3 .skip
def c99_5 : ACode := .seq c99_1 c99_4
def c99_6 : ACode := .ops [
    ⟨(some 5), none, .q (.mv (.t 0)), []⟩,
    ⟨(some 6), none, .q (.mv (.t 0)), []⟩,
    ⟨(some 7), none, .q (.un .neg (.t 6)), []⟩,
    ⟨(some 8), none, .q (.bin .and (.t 5) (.t 7)), []⟩,
    ⟨(some 9), none, .q (.bin .mul (.t 8) (.v (.int .u64 285870213051353865))), []⟩,
    ⟨(some 10), none, .q (.bin .shr (.t 9) (.v (.int .u64 58))), []⟩,
    ⟨(some 11), none, .q (.iaa 64 1 (.v (.ptr 5 0)) (.t 10)), []⟩,
    ⟨(some 12), none, .q (.ld none (.t 11)), []⟩,
    ⟨(some 13), none, .q (.conv .i64 (.t 12)), []⟩,
    ⟨(some 2), none, .q (.mv (.t 13)), []⟩]
def c99_7 : ACode := .seq c99_6 .ret
def c99_8 : ACode := .seq c99_5 c99_7
def c99_9 : ACode := .seq c99_0 c99_8
@[go_sem] theorem c99_0_wp (P : Program) (Q : APost) (a : AFr) (σ : ASt) : c99_0.wp P Q a σ = ACode.wp P (.ops [
    ⟨(some 2), none, .q (.mv (.v (.int .i64 0))), []⟩]) Q a σ := id rfl
@[go_sem] theorem c99_1_wp (P : Program) (Q : APost) (a : AFr) (σ : ASt) : c99_1.wp P Q a σ = ACode.wp P (.ops [
    ⟨(some 3), none, .q (.mv (.t 0)), []⟩,
    ⟨(some 4), none, .q (.bin .eql (.t 3) (.v (.int .u64 0))), []⟩]) Q a σ := id rfl
@[go_sem] theorem c99_2_wp (P : Program) (Q : APost) (a : AFr) (σ : ASt) : c99_2.wp P Q a σ = ACode.wp P (.ops [
    ⟨(some 2), none, .q (.mv (.v (.int .i64 64))), []⟩]) Q a σ := id rfl
@[go_sem] theorem c99_3_wp (P : Program) (Q : APost) (a : AFr) (σ : ASt) : c99_3.wp P Q a σ = ACode.wp P (.seq c99_2 .ret) Q a σ := id rfl
@[go_sem] theorem c99_4_wp (P : Program) (Q : APost) (a : AFr) (σ : ASt) : c99_4.wp P Q a σ = ACode.wp P (.cond (.t 4) c99_3 .skip) Q a σ := id rfl
@[go_sem] theorem c99_5_wp (P : Program) (Q : APost) (a : AFr) (σ : ASt) : c99_5.wp P Q a σ = ACode.wp P (.seq c99_1 c99_4) Q a σ := id rfl
@[go_sem] theorem c99_6_wp (P : Program) (Q : APost) (a : AFr) (σ : ASt) : c99_6.wp P Q a σ = ACode.wp P (.ops [
    ⟨(some 5), none, .q (.mv (.t 0)), []⟩,
    ⟨(some 6), none, .q (.mv (.t 0)), []⟩,
    ⟨(some 7), none, .q (.un .neg (.t 6)), []⟩,
    ⟨(some 8), none, .q (.bin .and (.t 5) (.t 7)), []⟩,
    ⟨(some 9), none, .q (.bin .mul (.t 8) (.v (.int .u64 285870213051353865))), []⟩,
    ⟨(some 10), none, .q (.bin .shr (.t 9) (.v (.int .u64 58))), []⟩,
    ⟨(some 11), none, .q (.iaa 64 1 (.v (.ptr 5 0)) (.t 10)), []⟩,
    ⟨(some 12), none, .q (.ld none (.t 11)), []⟩,
    ⟨(some 13), none, .q (.conv .i64 (.t 12)), []⟩,
    ⟨(some 2), none, .q (.mv (.t 13)), []⟩]) Q a σ := id rfl
@[go_sem] theorem c99_7_wp (P : Program) (Q : APost) (a : AFr) (σ : ASt) : c99_7.wp P Q a σ = ACode.wp P (.seq c99_6 .ret) Q a σ := id rfl
@[go_sem] theorem c99_8_wp (P : Program) (Q : APost) (a : AFr) (σ : ASt) : c99_8.wp P Q a σ = ACode.wp P (.seq c99_5 c99_7) Q a σ := id rfl
@[go_sem] theorem c99_9_wp (P : Program) (Q : APost) (a : AFr) (σ : ASt) : c99_9.wp P Q a σ = ACode.wp P (.seq c99_0 c99_8) Q a σ := id rfl
def c99 : AFn := ⟨14, [.t 2], c99_9⟩
set_option maxRecDepth 100000 in
theorem c99_ok : compF Tryd.prog Tryd.f99 = some c99 := by kernel_rfl
theorem a99 {args : List AV} {σ : ASt} {R : AV → ASt → Prop} (hl : args.length ≤ 14) (h : c99_9.wp Tryd.prog (RetQ [.t 2] R) (init args) σ) : ACalls Tryd.prog 99 args σ R := acalls_of Tryd.func99 c99_ok hl h

end Go.A
