/- The functions, compiled: by program (wip/gencode.py). -/
import Derived.Test.YtpedaofcndaooaaDoorBk
import Derived.Test.YtpedaofcndaooaaDoorProg
import Derived.KernelRfl
namespace Go.A
open Go.Proofs

/-! 8: tabular/tabularlaw01.DeciRounds -/
def c8_0 : ACode := .ops [
    ⟨(some 6), none, .q (.mv (.v (.bool false))), []⟩]
def c8_1 : ACode := .ops [
    ⟨(some 17), none, .q (.mv (.t 0)), []⟩,
    ⟨(some 18), none, .e (.call 9 [(.t 17)]), []⟩,
    ⟨(some 19), none, .q (.un .not (.t 18)), []⟩,
    ⟨(some 20), none, .q (.mv (.t 19)), []⟩,
    ⟨(some 21), (some (20, false)), .q (.mv (.t 1)), []⟩,
    ⟨(some 22), (some (20, false)), .e (.call 9 [(.t 21)]), []⟩,
    ⟨(some 23), (some (20, false)), .q (.un .not (.t 22)), []⟩,
    ⟨(some 24), none, .q (.pick (.t 20) (.v (.bool true)) (.t 23)), []⟩]
def c8_2 : ACode := .ops [
    ⟨(some 25), none, .e (.call 10 []), []⟩,
    ⟨(some 6), none, .q (.mv (.t 25)), []⟩]
def c8_3 : ACode := .seq c8_2 .ret
def c8_4 : ACode := .cond (.t 24) c8_3 .skip
def c8_5 : ACode := .seq c8_1 c8_4
def c8_6 : ACode := .ops [
    ⟨(some 26), none, .q (.mv (.t 0)), []⟩,
    ⟨(some 7), none, .q (.mv (.t 26)), []⟩]
def c8_7 : ACode := .ops [
    ⟨(some 28), none, .q (.mv (.t 0)), []⟩,
    ⟨(some 29), none, .q (.mv (.t 2)), []⟩,
    ⟨(some 30), none, .e (.call 13 [(.t 28), (.t 29)]), []⟩,
    ⟨(some 27), none, .q (.mv (.t 30)), []⟩,
    ⟨(some 31), none, .q (.ext 0 (.t 27)), []⟩,
    ⟨(some 32), none, .q (.ext 1 (.t 27)), []⟩,
    ⟨(some 8), none, .q (.mv (.t 31)), []⟩,
    ⟨(some 9), none, .q (.mv (.t 32)), []⟩]
def c8_8 : ACode := .ops [
    ⟨(some 34), none, .q (.mv (.t 7)), []⟩,
    ⟨(some 35), none, .q (.mv (.t 2)), []⟩,
    ⟨(some 36), none, .e (.call 26 [(.t 34), (.t 35)]), []⟩,
    ⟨(some 33), none, .q (.mv (.t 36)), []⟩,
    ⟨(some 37), none, .q (.ext 0 (.t 33)), []⟩,
    ⟨(some 38), none, .q (.ext 1 (.t 33)), []⟩,
    ⟨(some 10), none, .q (.mv (.t 37)), []⟩,
    ⟨(some 11), none, .q (.mv (.t 38)), []⟩]
def c8_9 : ACode := .ops [
    ⟨(some 39), none, .e (.call 10 []), []⟩,
    ⟨(some 40), none, .q (.un .not (.t 39)), []⟩,
    ⟨(some 41), none, .q (.mv (.t 40)), []⟩,
    ⟨(some 42), (some (41, false)), .q (.mv (.t 8)), []⟩,
    ⟨(some 43), (some (41, false)), .q (.mv (.t 9)), []⟩,
    ⟨(some 44), (some (41, false)), .q (.mv (.t 10)), []⟩,
    ⟨(some 45), (some (41, false)), .q (.mv (.t 11)), []⟩,
    ⟨(some 46), (some (41, false)), .e (.call 22 [(.t 42), (.t 43), (.t 44), (.t 45)]), []⟩,
    ⟨(some 47), (some (41, false)), .q (.un .not (.t 46)), []⟩,
    ⟨(some 48), none, .q (.pick (.t 41) (.v (.bool true)) (.t 47)), []⟩,
    ⟨(some 49), none, .q (.mv (.t 48)), []⟩,
    ⟨(some 50), (some (49, false)), .q (.mv (.t 0)), []⟩,
    ⟨(some 51), (some (49, false)), .q (.mv (.t 2)), []⟩,
    ⟨(some 52), (some (49, false)), .e (.call 27 [(.t 50), (.t 51)]), []⟩,
    ⟨(some 53), (some (49, false)), .q (.mv (.t 7)), []⟩,
    ⟨(some 54), (some (49, false)), .q (.mv (.t 2)), []⟩,
    ⟨(some 55), (some (49, false)), .e (.call 28 [(.t 53), (.t 54)]), []⟩,
    ⟨(some 56), (some (49, false)), .q (.bin .neq (.t 52) (.t 55)), []⟩,
    ⟨(some 57), none, .q (.pick (.t 49) (.v (.bool true)) (.t 56)), []⟩,
    ⟨(some 58), none, .q (.mv (.t 57)), []⟩,
    ⟨(some 59), (some (58, false)), .q (.mv (.t 0)), []⟩,
    ⟨(some 60), (some (58, false)), .e (.call 14 [(.t 59)]), []⟩,
    ⟨(some 61), (some (58, false)), .q (.mv (.t 7)), []⟩,
    ⟨(some 62), (some (58, false)), .e (.call 29 [(.t 61)]), []⟩,
    ⟨(some 63), (some (58, false)), .q (.conv .i64 (.t 62)), []⟩,
    ⟨(some 64), (some (58, false)), .q (.bin .neq (.t 60) (.t 63)), []⟩,
    ⟨(some 65), none, .q (.pick (.t 58) (.v (.bool true)) (.t 64)), []⟩]
def c8_10 : ACode := .ops [
    ⟨(some 6), none, .q (.mv (.v (.bool false))), []⟩]
def c8_11 : ACode := .seq c8_10 .ret
def c8_12 : ACode := .cond (.t 65) c8_11 .skip
def c8_13 : ACode := .seq c8_9 c8_12
def c8_14 : ACode := .ops [
    ⟨(some 67), none, .q (.mv (.t 0)), []⟩,
    ⟨(some 68), none, .q (.mv (.t 1)), []⟩,
    ⟨(some 69), none, .e (.call 16 [(.t 67), (.t 68)]), []⟩,
    ⟨(some 66), none, .q (.mv (.t 69)), []⟩,
    ⟨(some 70), none, .q (.ext 0 (.t 66)), []⟩,
    ⟨(some 71), none, .q (.ext 1 (.t 66)), []⟩,
    ⟨(some 12), none, .q (.mv (.t 70)), []⟩,
    ⟨(some 13), none, .q (.mv (.t 71)), []⟩]
def c8_15 : ACode := .ops [
    ⟨(some 73), none, .q (.mv (.t 0)), []⟩,
    ⟨(some 74), none, .q (.mv (.t 1)), []⟩,
    ⟨(some 75), none, .e (.call 18 [(.t 73), (.t 74)]), []⟩,
    ⟨(some 72), none, .q (.mv (.t 75)), []⟩,
    ⟨(some 76), none, .q (.ext 0 (.t 72)), []⟩,
    ⟨(some 77), none, .q (.ext 1 (.t 72)), []⟩,
    ⟨(some 14), none, .q (.mv (.t 76)), []⟩,
    ⟨(some 15), none, .q (.mv (.t 77)), []⟩]
def c8_16 : ACode := .ops [
    ⟨(some 78), none, .q (.mv (.t 1)), []⟩,
    ⟨(some 79), none, .q (.bin .leq (.t 78) (.v (.int .i64 0))), []⟩]
def c8_17 : ACode := .ops [
    ⟨(some 80), none, .q (.mv (.t 13)), []⟩,
    ⟨(some 81), none, .q (.un .not (.t 80)), []⟩,
    ⟨(some 82), none, .q (.mv (.t 81)), []⟩,
    ⟨(some 83), (some (82, true)), .q (.mv (.t 15)), []⟩,
    ⟨(some 84), (some (82, true)), .q (.un .not (.t 83)), []⟩,
    ⟨(some 85), none, .q (.pick (.t 82) (.t 84) (.v (.bool false))), []⟩,
    ⟨(some 86), none, .q (.mv (.t 85)), []⟩,
    ⟨(some 87), (some (86, true)), .q (.mv (.t 12)), []⟩,
    ⟨(some 88), (some (86, true)), .q (.bin .eql (.t 87) (.v (.int .i64 0))), []⟩,
    ⟨(some 89), none, .q (.pick (.t 86) (.t 88) (.v (.bool false))), []⟩,
    ⟨(some 90), none, .q (.mv (.t 89)), []⟩,
    ⟨(some 91), (some (90, true)), .q (.mv (.t 14)), []⟩,
    ⟨(some 92), (some (90, true)), .q (.bin .eql (.t 91) (.v (.int .i64 0))), []⟩,
    ⟨(some 93), none, .q (.pick (.t 90) (.t 92) (.v (.bool false))), []⟩,
    ⟨(some 6), none, .q (.mv (.t 93)), []⟩]
def c8_18 : ACode := .seq c8_17 .ret
def c8_19 : ACode := .cond (.t 79) c8_18 .skip
def c8_20 : ACode := .seq c8_16 c8_19
def c8_21 : ACode := .ops [
    ⟨(some 95), none, .q (.mv (.t 7)), []⟩,
    ⟨(some 96), none, .q (.mv (.t 1)), []⟩,
    ⟨(some 97), none, .e (.call 30 [(.t 95), (.t 96)]), []⟩,
    ⟨(some 94), none, .q (.mv (.t 97)), []⟩,
    ⟨(some 98), none, .q (.ext 0 (.t 94)), []⟩,
    ⟨(some 99), none, .q (.ext 1 (.t 94)), []⟩,
    ⟨(some 10), none, .q (.mv (.t 98)), []⟩,
    ⟨(some 11), none, .q (.mv (.t 99)), []⟩]
def c8_22 : ACode := .ops [
    ⟨(some 100), none, .q (.mv (.t 12)), []⟩,
    ⟨(some 101), none, .q (.mv (.t 13)), []⟩,
    ⟨(some 102), none, .q (.mv (.t 10)), []⟩,
    ⟨(some 103), none, .q (.mv (.t 11)), []⟩,
    ⟨(some 104), none, .e (.call 22 [(.t 100), (.t 101), (.t 102), (.t 103)]), []⟩,
    ⟨(some 105), none, .q (.un .not (.t 104)), []⟩]
def c8_23 : ACode := .ops [
    ⟨(some 6), none, .q (.mv (.v (.bool false))), []⟩]
def c8_24 : ACode := .seq c8_23 .ret
def c8_25 : ACode := .cond (.t 105) c8_24 .skip
def c8_26 : ACode := .seq c8_22 c8_25
def c8_27 : ACode := .ops [
    ⟨(some 107), none, .q (.mv (.t 7)), []⟩,
    ⟨(some 108), none, .q (.mv (.t 1)), []⟩,
    ⟨(some 109), none, .e (.call 31 [(.t 107), (.t 108)]), []⟩,
    ⟨(some 106), none, .q (.mv (.t 109)), []⟩,
    ⟨(some 110), none, .q (.ext 0 (.t 106)), []⟩,
    ⟨(some 111), none, .q (.ext 1 (.t 106)), []⟩,
    ⟨(some 10), none, .q (.mv (.t 110)), []⟩,
    ⟨(some 11), none, .q (.mv (.t 111)), []⟩]
def c8_28 : ACode := .ops [
    ⟨(some 16), none, .q (.mv (.v (.int .i64 0))), []⟩]
def c8_29 : ACode := .ops [
    ⟨(some 112), none, .q (.mv (.t 0)), []⟩,
    ⟨(some 113), none, .q (.bin .lss (.t 112) (.v (.int .i64 0))), []⟩]
def c8_30 : ACode := .ops [
    ⟨(some 16), none, .q (.mv (.v (.int .i64 (-1)))), []⟩]
def c8_31 : ACode := .cond (.t 113) c8_30 .skip
def c8_32 : ACode := .seq c8_29 c8_31
def c8_33 : ACode := .ops [
    ⟨(some 114), none, .q (.mv (.t 0)), []⟩,
    ⟨(some 115), none, .q (.bin .gtr (.t 114) (.v (.int .i64 0))), []⟩]
def c8_34 : ACode := .ops [
    ⟨(some 16), none, .q (.mv (.v (.int .i64 1))), []⟩]
def c8_35 : ACode := .cond (.t 115) c8_34 .skip
def c8_36 : ACode := .seq c8_33 c8_35
def c8_37 : ACode := .ops [
    ⟨(some 116), none, .q (.mv (.t 14)), []⟩,
    ⟨(some 117), none, .q (.mv (.t 15)), []⟩,
    ⟨(some 118), none, .q (.mv (.t 10)), []⟩,
    ⟨(some 119), none, .q (.mv (.t 11)), []⟩,
    ⟨(some 120), none, .e (.call 22 [(.t 116), (.t 117), (.t 118), (.t 119)]), []⟩,
    ⟨(some 121), none, .q (.mv (.t 120)), []⟩,
    ⟨(some 122), (some (121, true)), .q (.mv (.t 0)), []⟩,
    ⟨(some 123), (some (121, true)), .e (.call 32 [(.t 122)]), []⟩,
    ⟨(some 124), (some (121, true)), .q (.mv (.t 16)), []⟩,
    ⟨(some 125), (some (121, true)), .q (.bin .eql (.t 123) (.t 124)), []⟩,
    ⟨(some 126), none, .q (.pick (.t 121) (.t 125) (.v (.bool false))), []⟩,
    ⟨(some 127), none, .q (.mv (.t 126)), []⟩,
    ⟨(some 128), (some (127, true)), .q (.mv (.t 0)), []⟩,
    ⟨(some 129), (some (127, true)), .e (.call 33 [(.t 128)]), []⟩,
    ⟨(some 130), (some (127, true)), .q (.mv (.t 7)), []⟩,
    ⟨(some 131), (some (127, true)), .q (.bin .quo (.t 130) (.v (.int .i64 10000))), []⟩,
    ⟨(some 132), (some (127, true)), .q (.bin .eql (.t 129) (.t 131)), []⟩,
    ⟨(some 133), none, .q (.pick (.t 127) (.t 132) (.v (.bool false))), []⟩,
    ⟨(some 134), none, .q (.mv (.t 133)), []⟩,
    ⟨(some 135), (some (134, true)), .q (.mv (.t 0)), []⟩,
    ⟨(some 136), (some (134, true)), .e (.call 34 [(.t 135)]), []⟩,
    ⟨(some 137), (some (134, true)), .q (.mv (.t 7)), []⟩,
    ⟨(some 138), (some (134, true)), .q (.bin .rem (.t 137) (.v (.int .i64 10000))), []⟩,
    ⟨(some 139), (some (134, true)), .q (.bin .eql (.t 138) (.v (.int .i64 0))), []⟩,
    ⟨(some 140), (some (134, true)), .q (.eq .b false (.t 136) (.t 139)), []⟩,
    ⟨(some 141), none, .q (.pick (.t 134) (.t 140) (.v (.bool false))), []⟩,
    ⟨(some 6), none, .q (.mv (.t 141)), []⟩]
def c8_38 : ACode := .seq c8_37 .ret
def c8_39 : ACode := .seq c8_36 c8_38
def c8_40 : ACode := .seq c8_32 c8_39
def c8_41 : ACode := .seq c8_28 c8_40
def c8_42 : ACode := .seq c8_27 c8_41
def c8_43 : ACode := .seq c8_26 c8_42
def c8_44 : ACode := .seq c8_21 c8_43
def c8_45 : ACode := .seq c8_20 c8_44
def c8_46 : ACode := .seq c8_15 c8_45
def c8_47 : ACode := .seq c8_14 c8_46
def c8_48 : ACode := .seq c8_13 c8_47
def c8_49 : ACode := .seq c8_8 c8_48
def c8_50 : ACode := .seq c8_7 c8_49
def c8_51 : ACode := .seq c8_6 c8_50
def c8_52 : ACode := .seq c8_5 c8_51
def c8_53 : ACode := .seq c8_0 c8_52
@[go_sem] theorem c8_0_wp (P : Program) (Q : APost) (a : AFr) (σ : ASt) : c8_0.wp P Q a σ = ACode.wp P (.ops [
    ⟨(some 6), none, .q (.mv (.v (.bool false))), []⟩]) Q a σ := id rfl
@[go_sem] theorem c8_1_wp (P : Program) (Q : APost) (a : AFr) (σ : ASt) : c8_1.wp P Q a σ = ACode.wp P (.ops [
    ⟨(some 17), none, .q (.mv (.t 0)), []⟩,
    ⟨(some 18), none, .e (.call 9 [(.t 17)]), []⟩,
    ⟨(some 19), none, .q (.un .not (.t 18)), []⟩,
    ⟨(some 20), none, .q (.mv (.t 19)), []⟩,
    ⟨(some 21), (some (20, false)), .q (.mv (.t 1)), []⟩,
    ⟨(some 22), (some (20, false)), .e (.call 9 [(.t 21)]), []⟩,
    ⟨(some 23), (some (20, false)), .q (.un .not (.t 22)), []⟩,
    ⟨(some 24), none, .q (.pick (.t 20) (.v (.bool true)) (.t 23)), []⟩]) Q a σ := id rfl
@[go_sem] theorem c8_2_wp (P : Program) (Q : APost) (a : AFr) (σ : ASt) : c8_2.wp P Q a σ = ACode.wp P (.ops [
    ⟨(some 25), none, .e (.call 10 []), []⟩,
    ⟨(some 6), none, .q (.mv (.t 25)), []⟩]) Q a σ := id rfl
@[go_sem] theorem c8_3_wp (P : Program) (Q : APost) (a : AFr) (σ : ASt) : c8_3.wp P Q a σ = ACode.wp P (.seq c8_2 .ret) Q a σ := id rfl
@[go_sem] theorem c8_4_wp (P : Program) (Q : APost) (a : AFr) (σ : ASt) : c8_4.wp P Q a σ = ACode.wp P (.cond (.t 24) c8_3 .skip) Q a σ := id rfl
@[go_sem] theorem c8_5_wp (P : Program) (Q : APost) (a : AFr) (σ : ASt) : c8_5.wp P Q a σ = ACode.wp P (.seq c8_1 c8_4) Q a σ := id rfl
@[go_sem] theorem c8_6_wp (P : Program) (Q : APost) (a : AFr) (σ : ASt) : c8_6.wp P Q a σ = ACode.wp P (.ops [
    ⟨(some 26), none, .q (.mv (.t 0)), []⟩,
    ⟨(some 7), none, .q (.mv (.t 26)), []⟩]) Q a σ := id rfl
@[go_sem] theorem c8_7_wp (P : Program) (Q : APost) (a : AFr) (σ : ASt) : c8_7.wp P Q a σ = ACode.wp P (.ops [
    ⟨(some 28), none, .q (.mv (.t 0)), []⟩,
    ⟨(some 29), none, .q (.mv (.t 2)), []⟩,
    ⟨(some 30), none, .e (.call 13 [(.t 28), (.t 29)]), []⟩,
    ⟨(some 27), none, .q (.mv (.t 30)), []⟩,
    ⟨(some 31), none, .q (.ext 0 (.t 27)), []⟩,
    ⟨(some 32), none, .q (.ext 1 (.t 27)), []⟩,
    ⟨(some 8), none, .q (.mv (.t 31)), []⟩,
    ⟨(some 9), none, .q (.mv (.t 32)), []⟩]) Q a σ := id rfl
@[go_sem] theorem c8_8_wp (P : Program) (Q : APost) (a : AFr) (σ : ASt) : c8_8.wp P Q a σ = ACode.wp P (.ops [
    ⟨(some 34), none, .q (.mv (.t 7)), []⟩,
    ⟨(some 35), none, .q (.mv (.t 2)), []⟩,
    ⟨(some 36), none, .e (.call 26 [(.t 34), (.t 35)]), []⟩,
    ⟨(some 33), none, .q (.mv (.t 36)), []⟩,
    ⟨(some 37), none, .q (.ext 0 (.t 33)), []⟩,
    ⟨(some 38), none, .q (.ext 1 (.t 33)), []⟩,
    ⟨(some 10), none, .q (.mv (.t 37)), []⟩,
    ⟨(some 11), none, .q (.mv (.t 38)), []⟩]) Q a σ := id rfl
@[go_sem] theorem c8_9_wp (P : Program) (Q : APost) (a : AFr) (σ : ASt) : c8_9.wp P Q a σ = ACode.wp P (.ops [
    ⟨(some 39), none, .e (.call 10 []), []⟩,
    ⟨(some 40), none, .q (.un .not (.t 39)), []⟩,
    ⟨(some 41), none, .q (.mv (.t 40)), []⟩,
    ⟨(some 42), (some (41, false)), .q (.mv (.t 8)), []⟩,
    ⟨(some 43), (some (41, false)), .q (.mv (.t 9)), []⟩,
    ⟨(some 44), (some (41, false)), .q (.mv (.t 10)), []⟩,
    ⟨(some 45), (some (41, false)), .q (.mv (.t 11)), []⟩,
    ⟨(some 46), (some (41, false)), .e (.call 22 [(.t 42), (.t 43), (.t 44), (.t 45)]), []⟩,
    ⟨(some 47), (some (41, false)), .q (.un .not (.t 46)), []⟩,
    ⟨(some 48), none, .q (.pick (.t 41) (.v (.bool true)) (.t 47)), []⟩,
    ⟨(some 49), none, .q (.mv (.t 48)), []⟩,
    ⟨(some 50), (some (49, false)), .q (.mv (.t 0)), []⟩,
    ⟨(some 51), (some (49, false)), .q (.mv (.t 2)), []⟩,
    ⟨(some 52), (some (49, false)), .e (.call 27 [(.t 50), (.t 51)]), []⟩,
    ⟨(some 53), (some (49, false)), .q (.mv (.t 7)), []⟩,
    ⟨(some 54), (some (49, false)), .q (.mv (.t 2)), []⟩,
    ⟨(some 55), (some (49, false)), .e (.call 28 [(.t 53), (.t 54)]), []⟩,
    ⟨(some 56), (some (49, false)), .q (.bin .neq (.t 52) (.t 55)), []⟩,
    ⟨(some 57), none, .q (.pick (.t 49) (.v (.bool true)) (.t 56)), []⟩,
    ⟨(some 58), none, .q (.mv (.t 57)), []⟩,
    ⟨(some 59), (some (58, false)), .q (.mv (.t 0)), []⟩,
    ⟨(some 60), (some (58, false)), .e (.call 14 [(.t 59)]), []⟩,
    ⟨(some 61), (some (58, false)), .q (.mv (.t 7)), []⟩,
    ⟨(some 62), (some (58, false)), .e (.call 29 [(.t 61)]), []⟩,
    ⟨(some 63), (some (58, false)), .q (.conv .i64 (.t 62)), []⟩,
    ⟨(some 64), (some (58, false)), .q (.bin .neq (.t 60) (.t 63)), []⟩,
    ⟨(some 65), none, .q (.pick (.t 58) (.v (.bool true)) (.t 64)), []⟩]) Q a σ := id rfl
@[go_sem] theorem c8_10_wp (P : Program) (Q : APost) (a : AFr) (σ : ASt) : c8_10.wp P Q a σ = ACode.wp P (.ops [
    ⟨(some 6), none, .q (.mv (.v (.bool false))), []⟩]) Q a σ := id rfl
@[go_sem] theorem c8_11_wp (P : Program) (Q : APost) (a : AFr) (σ : ASt) : c8_11.wp P Q a σ = ACode.wp P (.seq c8_10 .ret) Q a σ := id rfl
@[go_sem] theorem c8_12_wp (P : Program) (Q : APost) (a : AFr) (σ : ASt) : c8_12.wp P Q a σ = ACode.wp P (.cond (.t 65) c8_11 .skip) Q a σ := id rfl
@[go_sem] theorem c8_13_wp (P : Program) (Q : APost) (a : AFr) (σ : ASt) : c8_13.wp P Q a σ = ACode.wp P (.seq c8_9 c8_12) Q a σ := id rfl
@[go_sem] theorem c8_14_wp (P : Program) (Q : APost) (a : AFr) (σ : ASt) : c8_14.wp P Q a σ = ACode.wp P (.ops [
    ⟨(some 67), none, .q (.mv (.t 0)), []⟩,
    ⟨(some 68), none, .q (.mv (.t 1)), []⟩,
    ⟨(some 69), none, .e (.call 16 [(.t 67), (.t 68)]), []⟩,
    ⟨(some 66), none, .q (.mv (.t 69)), []⟩,
    ⟨(some 70), none, .q (.ext 0 (.t 66)), []⟩,
    ⟨(some 71), none, .q (.ext 1 (.t 66)), []⟩,
    ⟨(some 12), none, .q (.mv (.t 70)), []⟩,
    ⟨(some 13), none, .q (.mv (.t 71)), []⟩]) Q a σ := id rfl
@[go_sem] theorem c8_15_wp (P : Program) (Q : APost) (a : AFr) (σ : ASt) : c8_15.wp P Q a σ = ACode.wp P (.ops [
    ⟨(some 73), none, .q (.mv (.t 0)), []⟩,
    ⟨(some 74), none, .q (.mv (.t 1)), []⟩,
    ⟨(some 75), none, .e (.call 18 [(.t 73), (.t 74)]), []⟩,
    ⟨(some 72), none, .q (.mv (.t 75)), []⟩,
    ⟨(some 76), none, .q (.ext 0 (.t 72)), []⟩,
    ⟨(some 77), none, .q (.ext 1 (.t 72)), []⟩,
    ⟨(some 14), none, .q (.mv (.t 76)), []⟩,
    ⟨(some 15), none, .q (.mv (.t 77)), []⟩]) Q a σ := id rfl
@[go_sem] theorem c8_16_wp (P : Program) (Q : APost) (a : AFr) (σ : ASt) : c8_16.wp P Q a σ = ACode.wp P (.ops [
    ⟨(some 78), none, .q (.mv (.t 1)), []⟩,
    ⟨(some 79), none, .q (.bin .leq (.t 78) (.v (.int .i64 0))), []⟩]) Q a σ := id rfl
@[go_sem] theorem c8_17_wp (P : Program) (Q : APost) (a : AFr) (σ : ASt) : c8_17.wp P Q a σ = ACode.wp P (.ops [
    ⟨(some 80), none, .q (.mv (.t 13)), []⟩,
    ⟨(some 81), none, .q (.un .not (.t 80)), []⟩,
    ⟨(some 82), none, .q (.mv (.t 81)), []⟩,
    ⟨(some 83), (some (82, true)), .q (.mv (.t 15)), []⟩,
    ⟨(some 84), (some (82, true)), .q (.un .not (.t 83)), []⟩,
    ⟨(some 85), none, .q (.pick (.t 82) (.t 84) (.v (.bool false))), []⟩,
    ⟨(some 86), none, .q (.mv (.t 85)), []⟩,
    ⟨(some 87), (some (86, true)), .q (.mv (.t 12)), []⟩,
    ⟨(some 88), (some (86, true)), .q (.bin .eql (.t 87) (.v (.int .i64 0))), []⟩,
    ⟨(some 89), none, .q (.pick (.t 86) (.t 88) (.v (.bool false))), []⟩,
    ⟨(some 90), none, .q (.mv (.t 89)), []⟩,
    ⟨(some 91), (some (90, true)), .q (.mv (.t 14)), []⟩,
    ⟨(some 92), (some (90, true)), .q (.bin .eql (.t 91) (.v (.int .i64 0))), []⟩,
    ⟨(some 93), none, .q (.pick (.t 90) (.t 92) (.v (.bool false))), []⟩,
    ⟨(some 6), none, .q (.mv (.t 93)), []⟩]) Q a σ := id rfl
@[go_sem] theorem c8_18_wp (P : Program) (Q : APost) (a : AFr) (σ : ASt) : c8_18.wp P Q a σ = ACode.wp P (.seq c8_17 .ret) Q a σ := id rfl
@[go_sem] theorem c8_19_wp (P : Program) (Q : APost) (a : AFr) (σ : ASt) : c8_19.wp P Q a σ = ACode.wp P (.cond (.t 79) c8_18 .skip) Q a σ := id rfl
@[go_sem] theorem c8_20_wp (P : Program) (Q : APost) (a : AFr) (σ : ASt) : c8_20.wp P Q a σ = ACode.wp P (.seq c8_16 c8_19) Q a σ := id rfl
@[go_sem] theorem c8_21_wp (P : Program) (Q : APost) (a : AFr) (σ : ASt) : c8_21.wp P Q a σ = ACode.wp P (.ops [
    ⟨(some 95), none, .q (.mv (.t 7)), []⟩,
    ⟨(some 96), none, .q (.mv (.t 1)), []⟩,
    ⟨(some 97), none, .e (.call 30 [(.t 95), (.t 96)]), []⟩,
    ⟨(some 94), none, .q (.mv (.t 97)), []⟩,
    ⟨(some 98), none, .q (.ext 0 (.t 94)), []⟩,
    ⟨(some 99), none, .q (.ext 1 (.t 94)), []⟩,
    ⟨(some 10), none, .q (.mv (.t 98)), []⟩,
    ⟨(some 11), none, .q (.mv (.t 99)), []⟩]) Q a σ := id rfl
@[go_sem] theorem c8_22_wp (P : Program) (Q : APost) (a : AFr) (σ : ASt) : c8_22.wp P Q a σ = ACode.wp P (.ops [
    ⟨(some 100), none, .q (.mv (.t 12)), []⟩,
    ⟨(some 101), none, .q (.mv (.t 13)), []⟩,
    ⟨(some 102), none, .q (.mv (.t 10)), []⟩,
    ⟨(some 103), none, .q (.mv (.t 11)), []⟩,
    ⟨(some 104), none, .e (.call 22 [(.t 100), (.t 101), (.t 102), (.t 103)]), []⟩,
    ⟨(some 105), none, .q (.un .not (.t 104)), []⟩]) Q a σ := id rfl
@[go_sem] theorem c8_23_wp (P : Program) (Q : APost) (a : AFr) (σ : ASt) : c8_23.wp P Q a σ = ACode.wp P (.ops [
    ⟨(some 6), none, .q (.mv (.v (.bool false))), []⟩]) Q a σ := id rfl
@[go_sem] theorem c8_24_wp (P : Program) (Q : APost) (a : AFr) (σ : ASt) : c8_24.wp P Q a σ = ACode.wp P (.seq c8_23 .ret) Q a σ := id rfl
@[go_sem] theorem c8_25_wp (P : Program) (Q : APost) (a : AFr) (σ : ASt) : c8_25.wp P Q a σ = ACode.wp P (.cond (.t 105) c8_24 .skip) Q a σ := id rfl
@[go_sem] theorem c8_26_wp (P : Program) (Q : APost) (a : AFr) (σ : ASt) : c8_26.wp P Q a σ = ACode.wp P (.seq c8_22 c8_25) Q a σ := id rfl
@[go_sem] theorem c8_27_wp (P : Program) (Q : APost) (a : AFr) (σ : ASt) : c8_27.wp P Q a σ = ACode.wp P (.ops [
    ⟨(some 107), none, .q (.mv (.t 7)), []⟩,
    ⟨(some 108), none, .q (.mv (.t 1)), []⟩,
    ⟨(some 109), none, .e (.call 31 [(.t 107), (.t 108)]), []⟩,
    ⟨(some 106), none, .q (.mv (.t 109)), []⟩,
    ⟨(some 110), none, .q (.ext 0 (.t 106)), []⟩,
    ⟨(some 111), none, .q (.ext 1 (.t 106)), []⟩,
    ⟨(some 10), none, .q (.mv (.t 110)), []⟩,
    ⟨(some 11), none, .q (.mv (.t 111)), []⟩]) Q a σ := id rfl
@[go_sem] theorem c8_28_wp (P : Program) (Q : APost) (a : AFr) (σ : ASt) : c8_28.wp P Q a σ = ACode.wp P (.ops [
    ⟨(some 16), none, .q (.mv (.v (.int .i64 0))), []⟩]) Q a σ := id rfl
@[go_sem] theorem c8_29_wp (P : Program) (Q : APost) (a : AFr) (σ : ASt) : c8_29.wp P Q a σ = ACode.wp P (.ops [
    ⟨(some 112), none, .q (.mv (.t 0)), []⟩,
    ⟨(some 113), none, .q (.bin .lss (.t 112) (.v (.int .i64 0))), []⟩]) Q a σ := id rfl
@[go_sem] theorem c8_30_wp (P : Program) (Q : APost) (a : AFr) (σ : ASt) : c8_30.wp P Q a σ = ACode.wp P (.ops [
    ⟨(some 16), none, .q (.mv (.v (.int .i64 (-1)))), []⟩]) Q a σ := id rfl
@[go_sem] theorem c8_31_wp (P : Program) (Q : APost) (a : AFr) (σ : ASt) : c8_31.wp P Q a σ = ACode.wp P (.cond (.t 113) c8_30 .skip) Q a σ := id rfl
@[go_sem] theorem c8_32_wp (P : Program) (Q : APost) (a : AFr) (σ : ASt) : c8_32.wp P Q a σ = ACode.wp P (.seq c8_29 c8_31) Q a σ := id rfl
@[go_sem] theorem c8_33_wp (P : Program) (Q : APost) (a : AFr) (σ : ASt) : c8_33.wp P Q a σ = ACode.wp P (.ops [
    ⟨(some 114), none, .q (.mv (.t 0)), []⟩,
    ⟨(some 115), none, .q (.bin .gtr (.t 114) (.v (.int .i64 0))), []⟩]) Q a σ := id rfl
@[go_sem] theorem c8_34_wp (P : Program) (Q : APost) (a : AFr) (σ : ASt) : c8_34.wp P Q a σ = ACode.wp P (.ops [
    ⟨(some 16), none, .q (.mv (.v (.int .i64 1))), []⟩]) Q a σ := id rfl
@[go_sem] theorem c8_35_wp (P : Program) (Q : APost) (a : AFr) (σ : ASt) : c8_35.wp P Q a σ = ACode.wp P (.cond (.t 115) c8_34 .skip) Q a σ := id rfl
@[go_sem] theorem c8_36_wp (P : Program) (Q : APost) (a : AFr) (σ : ASt) : c8_36.wp P Q a σ = ACode.wp P (.seq c8_33 c8_35) Q a σ := id rfl
@[go_sem] theorem c8_37_wp (P : Program) (Q : APost) (a : AFr) (σ : ASt) : c8_37.wp P Q a σ = ACode.wp P (.ops [
    ⟨(some 116), none, .q (.mv (.t 14)), []⟩,
    ⟨(some 117), none, .q (.mv (.t 15)), []⟩,
    ⟨(some 118), none, .q (.mv (.t 10)), []⟩,
    ⟨(some 119), none, .q (.mv (.t 11)), []⟩,
    ⟨(some 120), none, .e (.call 22 [(.t 116), (.t 117), (.t 118), (.t 119)]), []⟩,
    ⟨(some 121), none, .q (.mv (.t 120)), []⟩,
    ⟨(some 122), (some (121, true)), .q (.mv (.t 0)), []⟩,
    ⟨(some 123), (some (121, true)), .e (.call 32 [(.t 122)]), []⟩,
    ⟨(some 124), (some (121, true)), .q (.mv (.t 16)), []⟩,
    ⟨(some 125), (some (121, true)), .q (.bin .eql (.t 123) (.t 124)), []⟩,
    ⟨(some 126), none, .q (.pick (.t 121) (.t 125) (.v (.bool false))), []⟩,
    ⟨(some 127), none, .q (.mv (.t 126)), []⟩,
    ⟨(some 128), (some (127, true)), .q (.mv (.t 0)), []⟩,
    ⟨(some 129), (some (127, true)), .e (.call 33 [(.t 128)]), []⟩,
    ⟨(some 130), (some (127, true)), .q (.mv (.t 7)), []⟩,
    ⟨(some 131), (some (127, true)), .q (.bin .quo (.t 130) (.v (.int .i64 10000))), []⟩,
    ⟨(some 132), (some (127, true)), .q (.bin .eql (.t 129) (.t 131)), []⟩,
    ⟨(some 133), none, .q (.pick (.t 127) (.t 132) (.v (.bool false))), []⟩,
    ⟨(some 134), none, .q (.mv (.t 133)), []⟩,
    ⟨(some 135), (some (134, true)), .q (.mv (.t 0)), []⟩,
    ⟨(some 136), (some (134, true)), .e (.call 34 [(.t 135)]), []⟩,
    ⟨(some 137), (some (134, true)), .q (.mv (.t 7)), []⟩,
    ⟨(some 138), (some (134, true)), .q (.bin .rem (.t 137) (.v (.int .i64 10000))), []⟩,
    ⟨(some 139), (some (134, true)), .q (.bin .eql (.t 138) (.v (.int .i64 0))), []⟩,
    ⟨(some 140), (some (134, true)), .q (.eq .b false (.t 136) (.t 139)), []⟩,
    ⟨(some 141), none, .q (.pick (.t 134) (.t 140) (.v (.bool false))), []⟩,
    ⟨(some 6), none, .q (.mv (.t 141)), []⟩]) Q a σ := id rfl
@[go_sem] theorem c8_38_wp (P : Program) (Q : APost) (a : AFr) (σ : ASt) : c8_38.wp P Q a σ = ACode.wp P (.seq c8_37 .ret) Q a σ := id rfl
@[go_sem] theorem c8_39_wp (P : Program) (Q : APost) (a : AFr) (σ : ASt) : c8_39.wp P Q a σ = ACode.wp P (.seq c8_36 c8_38) Q a σ := id rfl
@[go_sem] theorem c8_40_wp (P : Program) (Q : APost) (a : AFr) (σ : ASt) : c8_40.wp P Q a σ = ACode.wp P (.seq c8_32 c8_39) Q a σ := id rfl
@[go_sem] theorem c8_41_wp (P : Program) (Q : APost) (a : AFr) (σ : ASt) : c8_41.wp P Q a σ = ACode.wp P (.seq c8_28 c8_40) Q a σ := id rfl
@[go_sem] theorem c8_42_wp (P : Program) (Q : APost) (a : AFr) (σ : ASt) : c8_42.wp P Q a σ = ACode.wp P (.seq c8_27 c8_41) Q a σ := id rfl
@[go_sem] theorem c8_43_wp (P : Program) (Q : APost) (a : AFr) (σ : ASt) : c8_43.wp P Q a σ = ACode.wp P (.seq c8_26 c8_42) Q a σ := id rfl
@[go_sem] theorem c8_44_wp (P : Program) (Q : APost) (a : AFr) (σ : ASt) : c8_44.wp P Q a σ = ACode.wp P (.seq c8_21 c8_43) Q a σ := id rfl
@[go_sem] theorem c8_45_wp (P : Program) (Q : APost) (a : AFr) (σ : ASt) : c8_45.wp P Q a σ = ACode.wp P (.seq c8_20 c8_44) Q a σ := id rfl
@[go_sem] theorem c8_46_wp (P : Program) (Q : APost) (a : AFr) (σ : ASt) : c8_46.wp P Q a σ = ACode.wp P (.seq c8_15 c8_45) Q a σ := id rfl
@[go_sem] theorem c8_47_wp (P : Program) (Q : APost) (a : AFr) (σ : ASt) : c8_47.wp P Q a σ = ACode.wp P (.seq c8_14 c8_46) Q a σ := id rfl
@[go_sem] theorem c8_48_wp (P : Program) (Q : APost) (a : AFr) (σ : ASt) : c8_48.wp P Q a σ = ACode.wp P (.seq c8_13 c8_47) Q a σ := id rfl
@[go_sem] theorem c8_49_wp (P : Program) (Q : APost) (a : AFr) (σ : ASt) : c8_49.wp P Q a σ = ACode.wp P (.seq c8_8 c8_48) Q a σ := id rfl
@[go_sem] theorem c8_50_wp (P : Program) (Q : APost) (a : AFr) (σ : ASt) : c8_50.wp P Q a σ = ACode.wp P (.seq c8_7 c8_49) Q a σ := id rfl
@[go_sem] theorem c8_51_wp (P : Program) (Q : APost) (a : AFr) (σ : ASt) : c8_51.wp P Q a σ = ACode.wp P (.seq c8_6 c8_50) Q a σ := id rfl
@[go_sem] theorem c8_52_wp (P : Program) (Q : APost) (a : AFr) (σ : ASt) : c8_52.wp P Q a σ = ACode.wp P (.seq c8_5 c8_51) Q a σ := id rfl
@[go_sem] theorem c8_53_wp (P : Program) (Q : APost) (a : AFr) (σ : ASt) : c8_53.wp P Q a σ = ACode.wp P (.seq c8_0 c8_52) Q a σ := id rfl
def c8 : AFn := ⟨142, [.t 6], c8_53⟩
set_option maxRecDepth 100000 in
theorem c8_ok : compF Tryd.prog Tryd.f8 = some c8 := by kernel_rfl
theorem a8 {args : List AV} {σ : ASt} {R : AV → ASt → Prop} (hl : args.length ≤ 142) (h : c8_53.wp Tryd.prog (RetQ [.t 6] R) (init args) σ) : ACalls Tryd.prog 8 args σ R := acalls_of Tryd.func8 c8_ok hl h

/-! 26: tabular/tabularref01.Round -/
def c26_0 : ACode := .ops [
    ⟨(some 4), none, .q (.mv (.v (.int .i64 0))), []⟩,
    ⟨(some 5), none, .q (.mv (.v (.bool false))), []⟩]
def c26_1 : ACode := .ops [
    ⟨(some 8), none, .q (.mv (.t 1)), []⟩,
    ⟨(some 9), none, .q (.bin .geq (.t 8) (.v (.int .i64 4))), []⟩]
def c26_2 : ACode := .ops [
    ⟨(some 10), none, .q (.mv (.t 0)), []⟩,
    ⟨(some 4), none, .q (.mv (.t 10)), []⟩,
    ⟨(some 5), none, .q (.mv (.v (.bool true))), []⟩]
def c26_3 : ACode := .seq c26_2 .ret
def c26_4 : ACode := .cond (.t 9) c26_3 .skip
def c26_5 : ACode := .seq c26_1 c26_4
def c26_6 : ACode := .ops [
    ⟨(some 11), none, .q (.mv (.t 1)), []⟩,
    ⟨(some 12), none, .q (.bin .lss (.t 11) (.v (.int .i64 (-14)))), []⟩]
def c26_7 : ACode := .ops [
    ⟨(some 4), none, .q (.mv (.v (.int .i64 0))), []⟩,
    ⟨(some 5), none, .q (.mv (.v (.bool true))), []⟩]
def c26_8 : ACode := .seq c26_7 .ret
def c26_9 : ACode := .cond (.t 12) c26_8 .skip
def c26_10 : ACode := .seq c26_6 c26_9
def c26_11 : ACode := .ops [
    ⟨(some 13), none, .q (.mv (.t 0)), []⟩,
    ⟨(some 14), none, .e (.call 29 [(.t 13)]), []⟩,
    ⟨(some 15), none, .e (.call 47 [(.t 14)]), []⟩,
    ⟨(some 16), none, .q (.mv (.t 1)), []⟩,
    ⟨(some 17), none, .q (.bin .sub (.v (.int .i64 4)) (.t 16)), []⟩,
    ⟨(some 18), none, .e (.call 48 [(.t 15), (.t 17)]), []⟩,
    ⟨(some 6), none, .q (.mv (.t 18)), []⟩]
def c26_12 : ACode := .ops [
    ⟨(some 19), none, .q (.mv (.t 1)), []⟩,
    ⟨(some 7), none, .q (.mv (.t 19)), []⟩]
def c26_13 : ACode := .ops [
    ⟨(some 20), none, .q (.mv (.t 7)), []⟩,
    ⟨(some 21), none, .q (.bin .lss (.t 20) (.v (.int .i64 4))), []⟩]
def c26_14 : ACode := .cond (.t 21) .skip (.exit 0)
def c26_15 : ACode := .seq c26_13 c26_14
def c26_16 : ACode := .ops [
    ⟨(some 24), none, .q (.mv (.t 6)), []⟩,
    ⟨(some 25), none, .q (.bin .add (.t 24) (.v (.str [48]))), []⟩,
    ⟨(some 6), none, .q (.mv (.t 25)), []⟩]
def c26_17 : ACode := .block 1 c26_16
def c26_18 : ACode := .ops [
    ⟨(some 22), none, .q (.mv (.t 7)), []⟩,
    ⟨(some 23), none, .q (.bin .add (.t 22) (.v (.int .i64 1))), []⟩,
    ⟨(some 7), none, .q (.mv (.t 23)), []⟩]
def c26_19 : ACode := .seq c26_17 c26_18
def c26_20 : ACode := .seq c26_15 c26_19
def c26_21 : ACode := .loop c26_20
def c26_22 : ACode := .block 0 c26_21
def c26_23 : ACode := .seq c26_12 c26_22
def c26_24 : ACode := .ops [
    ⟨(some 26), none, .q (.mv (.t 0)), []⟩,
    ⟨(some 27), none, .q (.bin .lss (.t 26) (.v (.int .i64 0))), []⟩,
    ⟨(some 28), none, .q (.mv (.t 6)), []⟩,
    ⟨(some 29), none, .e (.call 46 [(.t 28)]), []⟩,
    ⟨(some 30), none, .e (.call 45 [(.t 27), (.t 29)]), []⟩,
    ⟨(some 31), none, .q (.ext 0 (.t 30)), []⟩,
    ⟨(some 32), none, .q (.ext 1 (.t 30)), []⟩,
    ⟨(some 4), none, .q (.mv (.t 31)), []⟩,
    ⟨(some 5), none, .q (.mv (.t 32)), []⟩]
def c26_25 : ACode := .seq c26_24 .ret
def c26_26 : ACode := .seq c26_23 c26_25
def c26_27 : ACode := .seq c26_11 c26_26
def c26_28 : ACode := .seq c26_10 c26_27
def c26_29 : ACode := .seq c26_5 c26_28
def c26_30 : ACode := .seq c26_0 c26_29
@[go_sem] theorem c26_0_wp (P : Program) (Q : APost) (a : AFr) (σ : ASt) : c26_0.wp P Q a σ = ACode.wp P (.ops [
    ⟨(some 4), none, .q (.mv (.v (.int .i64 0))), []⟩,
    ⟨(some 5), none, .q (.mv (.v (.bool false))), []⟩]) Q a σ := id rfl
@[go_sem] theorem c26_1_wp (P : Program) (Q : APost) (a : AFr) (σ : ASt) : c26_1.wp P Q a σ = ACode.wp P (.ops [
    ⟨(some 8), none, .q (.mv (.t 1)), []⟩,
    ⟨(some 9), none, .q (.bin .geq (.t 8) (.v (.int .i64 4))), []⟩]) Q a σ := id rfl
@[go_sem] theorem c26_2_wp (P : Program) (Q : APost) (a : AFr) (σ : ASt) : c26_2.wp P Q a σ = ACode.wp P (.ops [
    ⟨(some 10), none, .q (.mv (.t 0)), []⟩,
    ⟨(some 4), none, .q (.mv (.t 10)), []⟩,
    ⟨(some 5), none, .q (.mv (.v (.bool true))), []⟩]) Q a σ := id rfl
@[go_sem] theorem c26_3_wp (P : Program) (Q : APost) (a : AFr) (σ : ASt) : c26_3.wp P Q a σ = ACode.wp P (.seq c26_2 .ret) Q a σ := id rfl
@[go_sem] theorem c26_4_wp (P : Program) (Q : APost) (a : AFr) (σ : ASt) : c26_4.wp P Q a σ = ACode.wp P (.cond (.t 9) c26_3 .skip) Q a σ := id rfl
@[go_sem] theorem c26_5_wp (P : Program) (Q : APost) (a : AFr) (σ : ASt) : c26_5.wp P Q a σ = ACode.wp P (.seq c26_1 c26_4) Q a σ := id rfl
@[go_sem] theorem c26_6_wp (P : Program) (Q : APost) (a : AFr) (σ : ASt) : c26_6.wp P Q a σ = ACode.wp P (.ops [
    ⟨(some 11), none, .q (.mv (.t 1)), []⟩,
    ⟨(some 12), none, .q (.bin .lss (.t 11) (.v (.int .i64 (-14)))), []⟩]) Q a σ := id rfl
@[go_sem] theorem c26_7_wp (P : Program) (Q : APost) (a : AFr) (σ : ASt) : c26_7.wp P Q a σ = ACode.wp P (.ops [
    ⟨(some 4), none, .q (.mv (.v (.int .i64 0))), []⟩,
    ⟨(some 5), none, .q (.mv (.v (.bool true))), []⟩]) Q a σ := id rfl
@[go_sem] theorem c26_8_wp (P : Program) (Q : APost) (a : AFr) (σ : ASt) : c26_8.wp P Q a σ = ACode.wp P (.seq c26_7 .ret) Q a σ := id rfl
@[go_sem] theorem c26_9_wp (P : Program) (Q : APost) (a : AFr) (σ : ASt) : c26_9.wp P Q a σ = ACode.wp P (.cond (.t 12) c26_8 .skip) Q a σ := id rfl
@[go_sem] theorem c26_10_wp (P : Program) (Q : APost) (a : AFr) (σ : ASt) : c26_10.wp P Q a σ = ACode.wp P (.seq c26_6 c26_9) Q a σ := id rfl
@[go_sem] theorem c26_11_wp (P : Program) (Q : APost) (a : AFr) (σ : ASt) : c26_11.wp P Q a σ = ACode.wp P (.ops [
    ⟨(some 13), none, .q (.mv (.t 0)), []⟩,
    ⟨(some 14), none, .e (.call 29 [(.t 13)]), []⟩,
    ⟨(some 15), none, .e (.call 47 [(.t 14)]), []⟩,
    ⟨(some 16), none, .q (.mv (.t 1)), []⟩,
    ⟨(some 17), none, .q (.bin .sub (.v (.int .i64 4)) (.t 16)), []⟩,
    ⟨(some 18), none, .e (.call 48 [(.t 15), (.t 17)]), []⟩,
    ⟨(some 6), none, .q (.mv (.t 18)), []⟩]) Q a σ := id rfl
@[go_sem] theorem c26_12_wp (P : Program) (Q : APost) (a : AFr) (σ : ASt) : c26_12.wp P Q a σ = ACode.wp P (.ops [
    ⟨(some 19), none, .q (.mv (.t 1)), []⟩,
    ⟨(some 7), none, .q (.mv (.t 19)), []⟩]) Q a σ := id rfl
@[go_sem] theorem c26_13_wp (P : Program) (Q : APost) (a : AFr) (σ : ASt) : c26_13.wp P Q a σ = ACode.wp P (.ops [
    ⟨(some 20), none, .q (.mv (.t 7)), []⟩,
    ⟨(some 21), none, .q (.bin .lss (.t 20) (.v (.int .i64 4))), []⟩]) Q a σ := id rfl
@[go_sem] theorem c26_14_wp (P : Program) (Q : APost) (a : AFr) (σ : ASt) : c26_14.wp P Q a σ = ACode.wp P (.cond (.t 21) .skip (.exit 0)) Q a σ := id rfl
@[go_sem] theorem c26_15_wp (P : Program) (Q : APost) (a : AFr) (σ : ASt) : c26_15.wp P Q a σ = ACode.wp P (.seq c26_13 c26_14) Q a σ := id rfl
@[go_sem] theorem c26_16_wp (P : Program) (Q : APost) (a : AFr) (σ : ASt) : c26_16.wp P Q a σ = ACode.wp P (.ops [
    ⟨(some 24), none, .q (.mv (.t 6)), []⟩,
    ⟨(some 25), none, .q (.bin .add (.t 24) (.v (.str [48]))), []⟩,
    ⟨(some 6), none, .q (.mv (.t 25)), []⟩]) Q a σ := id rfl
@[go_sem] theorem c26_17_wp (P : Program) (Q : APost) (a : AFr) (σ : ASt) : c26_17.wp P Q a σ = ACode.wp P (.block 1 c26_16) Q a σ := id rfl
@[go_sem] theorem c26_18_wp (P : Program) (Q : APost) (a : AFr) (σ : ASt) : c26_18.wp P Q a σ = ACode.wp P (.ops [
    ⟨(some 22), none, .q (.mv (.t 7)), []⟩,
    ⟨(some 23), none, .q (.bin .add (.t 22) (.v (.int .i64 1))), []⟩,
    ⟨(some 7), none, .q (.mv (.t 23)), []⟩]) Q a σ := id rfl
@[go_sem] theorem c26_19_wp (P : Program) (Q : APost) (a : AFr) (σ : ASt) : c26_19.wp P Q a σ = ACode.wp P (.seq c26_17 c26_18) Q a σ := id rfl
@[go_sem] theorem c26_20_wp (P : Program) (Q : APost) (a : AFr) (σ : ASt) : c26_20.wp P Q a σ = ACode.wp P (.seq c26_15 c26_19) Q a σ := id rfl
@[go_sem] theorem c26_21_wp (P : Program) (Q : APost) (a : AFr) (σ : ASt) : c26_21.wp P Q a σ = ACode.wp P (.loop c26_20) Q a σ := id rfl
@[go_sem] theorem c26_22_wp (P : Program) (Q : APost) (a : AFr) (σ : ASt) : c26_22.wp P Q a σ = ACode.wp P (.block 0 c26_21) Q a σ := id rfl
@[go_sem] theorem c26_23_wp (P : Program) (Q : APost) (a : AFr) (σ : ASt) : c26_23.wp P Q a σ = ACode.wp P (.seq c26_12 c26_22) Q a σ := id rfl
@[go_sem] theorem c26_24_wp (P : Program) (Q : APost) (a : AFr) (σ : ASt) : c26_24.wp P Q a σ = ACode.wp P (.ops [
    ⟨(some 26), none, .q (.mv (.t 0)), []⟩,
    ⟨(some 27), none, .q (.bin .lss (.t 26) (.v (.int .i64 0))), []⟩,
    ⟨(some 28), none, .q (.mv (.t 6)), []⟩,
    ⟨(some 29), none, .e (.call 46 [(.t 28)]), []⟩,
    ⟨(some 30), none, .e (.call 45 [(.t 27), (.t 29)]), []⟩,
    ⟨(some 31), none, .q (.ext 0 (.t 30)), []⟩,
    ⟨(some 32), none, .q (.ext 1 (.t 30)), []⟩,
    ⟨(some 4), none, .q (.mv (.t 31)), []⟩,
    ⟨(some 5), none, .q (.mv (.t 32)), []⟩]) Q a σ := id rfl
@[go_sem] theorem c26_25_wp (P : Program) (Q : APost) (a : AFr) (σ : ASt) : c26_25.wp P Q a σ = ACode.wp P (.seq c26_24 .ret) Q a σ := id rfl
@[go_sem] theorem c26_26_wp (P : Program) (Q : APost) (a : AFr) (σ : ASt) : c26_26.wp P Q a σ = ACode.wp P (.seq c26_23 c26_25) Q a σ := id rfl
@[go_sem] theorem c26_27_wp (P : Program) (Q : APost) (a : AFr) (σ : ASt) : c26_27.wp P Q a σ = ACode.wp P (.seq c26_11 c26_26) Q a σ := id rfl
@[go_sem] theorem c26_28_wp (P : Program) (Q : APost) (a : AFr) (σ : ASt) : c26_28.wp P Q a σ = ACode.wp P (.seq c26_10 c26_27) Q a σ := id rfl
@[go_sem] theorem c26_29_wp (P : Program) (Q : APost) (a : AFr) (σ : ASt) : c26_29.wp P Q a σ = ACode.wp P (.seq c26_5 c26_28) Q a σ := id rfl
@[go_sem] theorem c26_30_wp (P : Program) (Q : APost) (a : AFr) (σ : ASt) : c26_30.wp P Q a σ = ACode.wp P (.seq c26_0 c26_29) Q a σ := id rfl
def c26 : AFn := ⟨33, [.t 4, .t 5], c26_30⟩
set_option maxRecDepth 100000 in
theorem c26_ok : compF Tryd.prog Tryd.f26 = some c26 := by kernel_rfl
theorem a26 {args : List AV} {σ : ASt} {R : AV → ASt → Prop} (hl : args.length ≤ 33) (h : c26_30.wp Tryd.prog (RetQ [.t 4, .t 5] R) (init args) σ) : ACalls Tryd.prog 26 args σ R := acalls_of Tryd.func26 c26_ok hl h

/-! 28: tabular/tabularref01.Trunc -/
def c28_0 : ACode := .ops [
    ⟨(some 4), none, .q (.mv (.v (.int .i64 0))), []⟩]
def c28_1 : ACode := .ops [
    ⟨(some 10), none, .q (.mv (.t 1)), []⟩,
    ⟨(some 11), none, .q (.bin .geq (.t 10) (.v (.int .i64 4))), []⟩]
def c28_2 : ACode := .ops [
    ⟨(some 12), none, .q (.mv (.t 0)), []⟩,
    ⟨(some 4), none, .q (.mv (.t 12)), []⟩]
def c28_3 : ACode := .seq c28_2 .ret
def c28_4 : ACode := .cond (.t 11) c28_3 .skip
def c28_5 : ACode := .seq c28_1 c28_4
def c28_6 : ACode := .ops [
    ⟨(some 13), none, .q (.mv (.t 1)), []⟩,
    ⟨(some 14), none, .q (.bin .lss (.t 13) (.v (.int .i64 (-14)))), []⟩]
def c28_7 : ACode := .ops [
    ⟨(some 4), none, .q (.mv (.v (.int .i64 0))), []⟩]
def c28_8 : ACode := .seq c28_7 .ret
def c28_9 : ACode := .cond (.t 14) c28_8 .skip
def c28_10 : ACode := .seq c28_6 c28_9
def c28_11 : ACode := .ops [
    ⟨(some 15), none, .q (.mv (.t 0)), []⟩,
    ⟨(some 16), none, .e (.call 29 [(.t 15)]), []⟩,
    ⟨(some 17), none, .e (.call 47 [(.t 16)]), []⟩,
    ⟨(some 5), none, .q (.mv (.t 17)), []⟩]
def c28_12 : ACode := .ops [
    ⟨(some 18), none, .q (.mv (.t 1)), []⟩,
    ⟨(some 19), none, .q (.bin .sub (.v (.int .i64 4)) (.t 18)), []⟩,
    ⟨(some 6), none, .q (.mv (.t 19)), []⟩]
def c28_13 : ACode := .ops [
    ⟨(some 20), none, .q (.mv (.t 5)), []⟩,
    ⟨(some 21), none, .q (.lenS (.t 20)), []⟩,
    ⟨(some 22), none, .q (.mv (.t 6)), []⟩,
    ⟨(some 23), none, .q (.bin .leq (.t 21) (.t 22)), []⟩]
def c28_14 : ACode := .ops [
    ⟨(some 4), none, .q (.mv (.v (.int .i64 0))), []⟩]
def c28_15 : ACode := .seq c28_14 .ret
def c28_16 : ACode := .cond (.t 23) c28_15 .skip
def c28_17 : ACode := .seq c28_13 c28_16
def c28_18 : ACode := .ops [
    ⟨(some 7), none, .q (.mv (.v (.int .i64 0))), []⟩]
def c28_19 : ACode := .ops [
    ⟨(some 24), none, .q (.mv (.t 7)), []⟩,
    ⟨(some 25), none, .q (.mv (.t 6)), []⟩,
    ⟨(some 26), none, .q (.bin .lss (.t 24) (.t 25)), []⟩]
def c28_20 : ACode := .cond (.t 26) .skip (.exit 0)
def c28_21 : ACode := .seq c28_19 c28_20
def c28_22 : ACode := .ops [
    ⟨(some 29), none, .q (.mv (.t 5)), []⟩,
    ⟨(some 30), none, .q (.mv (.t 5)), []⟩,
    ⟨(some 31), none, .q (.lenS (.t 30)), []⟩,
    ⟨(some 32), none, .q (.mv (.t 6)), []⟩,
    ⟨(some 33), none, .q (.bin .sub (.t 31) (.t 32)), []⟩,
    ⟨(some 34), none, .q (.mv (.t 7)), []⟩,
    ⟨(some 35), none, .q (.bin .add (.t 33) (.t 34)), []⟩,
    ⟨(some 36), none, .q (.slto (true, 0) (.t 29) (.t 35)), []⟩,
    ⟨(some 37), none, .q (.bin .add (.t 36) (.v (.str [48]))), []⟩,
    ⟨(some 38), none, .q (.mv (.t 5)), []⟩,
    ⟨(some 39), none, .q (.mv (.t 5)), []⟩,
    ⟨(some 40), none, .q (.lenS (.t 39)), []⟩,
    ⟨(some 41), none, .q (.mv (.t 6)), []⟩,
    ⟨(some 42), none, .q (.bin .sub (.t 40) (.t 41)), []⟩,
    ⟨(some 43), none, .q (.mv (.t 7)), []⟩,
    ⟨(some 44), none, .q (.bin .add (.t 42) (.t 43)), []⟩,
    ⟨(some 45), none, .q (.bin .add (.t 44) (.v (.int .i64 1))), []⟩,
    ⟨(some 46), none, .q (.slfrom (true, 0) (.t 38) (.t 45)), []⟩,
    ⟨(some 47), none, .q (.bin .add (.t 37) (.t 46)), []⟩,
    ⟨(some 5), none, .q (.mv (.t 47)), []⟩]
def c28_23 : ACode := .block 1 c28_22
def c28_24 : ACode := .ops [
    ⟨(some 27), none, .q (.mv (.t 7)), []⟩,
    ⟨(some 28), none, .q (.bin .add (.t 27) (.v (.int .i64 1))), []⟩,
    ⟨(some 7), none, .q (.mv (.t 28)), []⟩]
def c28_25 : ACode := .seq c28_23 c28_24
def c28_26 : ACode := .seq c28_21 c28_25
def c28_27 : ACode := .loop c28_26
def c28_28 : ACode := .block 0 c28_27
def c28_29 : ACode := .seq c28_18 c28_28
def c28_30 : ACode := .ops [
    ⟨(some 49), none, .q (.mv (.t 0)), []⟩,
    ⟨(some 50), none, .q (.bin .lss (.t 49) (.v (.int .i64 0))), []⟩,
    ⟨(some 51), none, .q (.mv (.t 5)), []⟩,
    ⟨(some 52), none, .e (.call 45 [(.t 50), (.t 51)]), []⟩,
    ⟨(some 48), none, .q (.mv (.t 52)), []⟩,
    ⟨(some 53), none, .q (.ext 0 (.t 48)), []⟩,
    ⟨(some 54), none, .q (.ext 1 (.t 48)), []⟩,
    ⟨(some 8), none, .q (.mv (.t 53)), []⟩,
    ⟨(some 9), none, .q (.mv (.t 54)), []⟩]
def c28_31 : ACode := .ops [
    ⟨(some 55), none, .q (.mv (.t 8)), []⟩,
    ⟨(some 4), none, .q (.mv (.t 55)), []⟩]
def c28_32 : ACode := .seq c28_31 .ret
def c28_33 : ACode := .seq c28_30 c28_32
def c28_34 : ACode := .seq c28_29 c28_33
def c28_35 : ACode := .seq c28_17 c28_34
def c28_36 : ACode := .seq c28_12 c28_35
def c28_37 : ACode := .seq c28_11 c28_36
def c28_38 : ACode := .seq c28_10 c28_37
def c28_39 : ACode := .seq c28_5 c28_38
def c28_40 : ACode := .seq c28_0 c28_39
@[go_sem] theorem c28_0_wp (P : Program) (Q : APost) (a : AFr) (σ : ASt) : c28_0.wp P Q a σ = ACode.wp P (.ops [
    ⟨(some 4), none, .q (.mv (.v (.int .i64 0))), []⟩]) Q a σ := id rfl
@[go_sem] theorem c28_1_wp (P : Program) (Q : APost) (a : AFr) (σ : ASt) : c28_1.wp P Q a σ = ACode.wp P (.ops [
    ⟨(some 10), none, .q (.mv (.t 1)), []⟩,
    ⟨(some 11), none, .q (.bin .geq (.t 10) (.v (.int .i64 4))), []⟩]) Q a σ := id rfl
@[go_sem] theorem c28_2_wp (P : Program) (Q : APost) (a : AFr) (σ : ASt) : c28_2.wp P Q a σ = ACode.wp P (.ops [
    ⟨(some 12), none, .q (.mv (.t 0)), []⟩,
    ⟨(some 4), none, .q (.mv (.t 12)), []⟩]) Q a σ := id rfl
@[go_sem] theorem c28_3_wp (P : Program) (Q : APost) (a : AFr) (σ : ASt) : c28_3.wp P Q a σ = ACode.wp P (.seq c28_2 .ret) Q a σ := id rfl
@[go_sem] theorem c28_4_wp (P : Program) (Q : APost) (a : AFr) (σ : ASt) : c28_4.wp P Q a σ = ACode.wp P (.cond (.t 11) c28_3 .skip) Q a σ := id rfl
@[go_sem] theorem c28_5_wp (P : Program) (Q : APost) (a : AFr) (σ : ASt) : c28_5.wp P Q a σ = ACode.wp P (.seq c28_1 c28_4) Q a σ := id rfl
@[go_sem] theorem c28_6_wp (P : Program) (Q : APost) (a : AFr) (σ : ASt) : c28_6.wp P Q a σ = ACode.wp P (.ops [
    ⟨(some 13), none, .q (.mv (.t 1)), []⟩,
    ⟨(some 14), none, .q (.bin .lss (.t 13) (.v (.int .i64 (-14)))), []⟩]) Q a σ := id rfl
@[go_sem] theorem c28_7_wp (P : Program) (Q : APost) (a : AFr) (σ : ASt) : c28_7.wp P Q a σ = ACode.wp P (.ops [
    ⟨(some 4), none, .q (.mv (.v (.int .i64 0))), []⟩]) Q a σ := id rfl
@[go_sem] theorem c28_8_wp (P : Program) (Q : APost) (a : AFr) (σ : ASt) : c28_8.wp P Q a σ = ACode.wp P (.seq c28_7 .ret) Q a σ := id rfl
@[go_sem] theorem c28_9_wp (P : Program) (Q : APost) (a : AFr) (σ : ASt) : c28_9.wp P Q a σ = ACode.wp P (.cond (.t 14) c28_8 .skip) Q a σ := id rfl
@[go_sem] theorem c28_10_wp (P : Program) (Q : APost) (a : AFr) (σ : ASt) : c28_10.wp P Q a σ = ACode.wp P (.seq c28_6 c28_9) Q a σ := id rfl
@[go_sem] theorem c28_11_wp (P : Program) (Q : APost) (a : AFr) (σ : ASt) : c28_11.wp P Q a σ = ACode.wp P (.ops [
    ⟨(some 15), none, .q (.mv (.t 0)), []⟩,
    ⟨(some 16), none, .e (.call 29 [(.t 15)]), []⟩,
    ⟨(some 17), none, .e (.call 47 [(.t 16)]), []⟩,
    ⟨(some 5), none, .q (.mv (.t 17)), []⟩]) Q a σ := id rfl
@[go_sem] theorem c28_12_wp (P : Program) (Q : APost) (a : AFr) (σ : ASt) : c28_12.wp P Q a σ = ACode.wp P (.ops [
    ⟨(some 18), none, .q (.mv (.t 1)), []⟩,
    ⟨(some 19), none, .q (.bin .sub (.v (.int .i64 4)) (.t 18)), []⟩,
    ⟨(some 6), none, .q (.mv (.t 19)), []⟩]) Q a σ := id rfl
@[go_sem] theorem c28_13_wp (P : Program) (Q : APost) (a : AFr) (σ : ASt) : c28_13.wp P Q a σ = ACode.wp P (.ops [
    ⟨(some 20), none, .q (.mv (.t 5)), []⟩,
    ⟨(some 21), none, .q (.lenS (.t 20)), []⟩,
    ⟨(some 22), none, .q (.mv (.t 6)), []⟩,
    ⟨(some 23), none, .q (.bin .leq (.t 21) (.t 22)), []⟩]) Q a σ := id rfl
@[go_sem] theorem c28_14_wp (P : Program) (Q : APost) (a : AFr) (σ : ASt) : c28_14.wp P Q a σ = ACode.wp P (.ops [
    ⟨(some 4), none, .q (.mv (.v (.int .i64 0))), []⟩]) Q a σ := id rfl
@[go_sem] theorem c28_15_wp (P : Program) (Q : APost) (a : AFr) (σ : ASt) : c28_15.wp P Q a σ = ACode.wp P (.seq c28_14 .ret) Q a σ := id rfl
@[go_sem] theorem c28_16_wp (P : Program) (Q : APost) (a : AFr) (σ : ASt) : c28_16.wp P Q a σ = ACode.wp P (.cond (.t 23) c28_15 .skip) Q a σ := id rfl
@[go_sem] theorem c28_17_wp (P : Program) (Q : APost) (a : AFr) (σ : ASt) : c28_17.wp P Q a σ = ACode.wp P (.seq c28_13 c28_16) Q a σ := id rfl
@[go_sem] theorem c28_18_wp (P : Program) (Q : APost) (a : AFr) (σ : ASt) : c28_18.wp P Q a σ = ACode.wp P (.ops [
    ⟨(some 7), none, .q (.mv (.v (.int .i64 0))), []⟩]) Q a σ := id rfl
@[go_sem] theorem c28_19_wp (P : Program) (Q : APost) (a : AFr) (σ : ASt) : c28_19.wp P Q a σ = ACode.wp P (.ops [
    ⟨(some 24), none, .q (.mv (.t 7)), []⟩,
    ⟨(some 25), none, .q (.mv (.t 6)), []⟩,
    ⟨(some 26), none, .q (.bin .lss (.t 24) (.t 25)), []⟩]) Q a σ := id rfl
@[go_sem] theorem c28_20_wp (P : Program) (Q : APost) (a : AFr) (σ : ASt) : c28_20.wp P Q a σ = ACode.wp P (.cond (.t 26) .skip (.exit 0)) Q a σ := id rfl
@[go_sem] theorem c28_21_wp (P : Program) (Q : APost) (a : AFr) (σ : ASt) : c28_21.wp P Q a σ = ACode.wp P (.seq c28_19 c28_20) Q a σ := id rfl
@[go_sem] theorem c28_22_wp (P : Program) (Q : APost) (a : AFr) (σ : ASt) : c28_22.wp P Q a σ = ACode.wp P (.ops [
    ⟨(some 29), none, .q (.mv (.t 5)), []⟩,
    ⟨(some 30), none, .q (.mv (.t 5)), []⟩,
    ⟨(some 31), none, .q (.lenS (.t 30)), []⟩,
    ⟨(some 32), none, .q (.mv (.t 6)), []⟩,
    ⟨(some 33), none, .q (.bin .sub (.t 31) (.t 32)), []⟩,
    ⟨(some 34), none, .q (.mv (.t 7)), []⟩,
    ⟨(some 35), none, .q (.bin .add (.t 33) (.t 34)), []⟩,
    ⟨(some 36), none, .q (.slto (true, 0) (.t 29) (.t 35)), []⟩,
    ⟨(some 37), none, .q (.bin .add (.t 36) (.v (.str [48]))), []⟩,
    ⟨(some 38), none, .q (.mv (.t 5)), []⟩,
    ⟨(some 39), none, .q (.mv (.t 5)), []⟩,
    ⟨(some 40), none, .q (.lenS (.t 39)), []⟩,
    ⟨(some 41), none, .q (.mv (.t 6)), []⟩,
    ⟨(some 42), none, .q (.bin .sub (.t 40) (.t 41)), []⟩,
    ⟨(some 43), none, .q (.mv (.t 7)), []⟩,
    ⟨(some 44), none, .q (.bin .add (.t 42) (.t 43)), []⟩,
    ⟨(some 45), none, .q (.bin .add (.t 44) (.v (.int .i64 1))), []⟩,
    ⟨(some 46), none, .q (.slfrom (true, 0) (.t 38) (.t 45)), []⟩,
    ⟨(some 47), none, .q (.bin .add (.t 37) (.t 46)), []⟩,
    ⟨(some 5), none, .q (.mv (.t 47)), []⟩]) Q a σ := id rfl
@[go_sem] theorem c28_23_wp (P : Program) (Q : APost) (a : AFr) (σ : ASt) : c28_23.wp P Q a σ = ACode.wp P (.block 1 c28_22) Q a σ := id rfl
@[go_sem] theorem c28_24_wp (P : Program) (Q : APost) (a : AFr) (σ : ASt) : c28_24.wp P Q a σ = ACode.wp P (.ops [
    ⟨(some 27), none, .q (.mv (.t 7)), []⟩,
    ⟨(some 28), none, .q (.bin .add (.t 27) (.v (.int .i64 1))), []⟩,
    ⟨(some 7), none, .q (.mv (.t 28)), []⟩]) Q a σ := id rfl
@[go_sem] theorem c28_25_wp (P : Program) (Q : APost) (a : AFr) (σ : ASt) : c28_25.wp P Q a σ = ACode.wp P (.seq c28_23 c28_24) Q a σ := id rfl
@[go_sem] theorem c28_26_wp (P : Program) (Q : APost) (a : AFr) (σ : ASt) : c28_26.wp P Q a σ = ACode.wp P (.seq c28_21 c28_25) Q a σ := id rfl
@[go_sem] theorem c28_27_wp (P : Program) (Q : APost) (a : AFr) (σ : ASt) : c28_27.wp P Q a σ = ACode.wp P (.loop c28_26) Q a σ := id rfl
@[go_sem] theorem c28_28_wp (P : Program) (Q : APost) (a : AFr) (σ : ASt) : c28_28.wp P Q a σ = ACode.wp P (.block 0 c28_27) Q a σ := id rfl
@[go_sem] theorem c28_29_wp (P : Program) (Q : APost) (a : AFr) (σ : ASt) : c28_29.wp P Q a σ = ACode.wp P (.seq c28_18 c28_28) Q a σ := id rfl
@[go_sem] theorem c28_30_wp (P : Program) (Q : APost) (a : AFr) (σ : ASt) : c28_30.wp P Q a σ = ACode.wp P (.ops [
    ⟨(some 49), none, .q (.mv (.t 0)), []⟩,
    ⟨(some 50), none, .q (.bin .lss (.t 49) (.v (.int .i64 0))), []⟩,
    ⟨(some 51), none, .q (.mv (.t 5)), []⟩,
    ⟨(some 52), none, .e (.call 45 [(.t 50), (.t 51)]), []⟩,
    ⟨(some 48), none, .q (.mv (.t 52)), []⟩,
    ⟨(some 53), none, .q (.ext 0 (.t 48)), []⟩,
    ⟨(some 54), none, .q (.ext 1 (.t 48)), []⟩,
    ⟨(some 8), none, .q (.mv (.t 53)), []⟩,
    ⟨(some 9), none, .q (.mv (.t 54)), []⟩]) Q a σ := id rfl
@[go_sem] theorem c28_31_wp (P : Program) (Q : APost) (a : AFr) (σ : ASt) : c28_31.wp P Q a σ = ACode.wp P (.ops [
    ⟨(some 55), none, .q (.mv (.t 8)), []⟩,
    ⟨(some 4), none, .q (.mv (.t 55)), []⟩]) Q a σ := id rfl
@[go_sem] theorem c28_32_wp (P : Program) (Q : APost) (a : AFr) (σ : ASt) : c28_32.wp P Q a σ = ACode.wp P (.seq c28_31 .ret) Q a σ := id rfl
@[go_sem] theorem c28_33_wp (P : Program) (Q : APost) (a : AFr) (σ : ASt) : c28_33.wp P Q a σ = ACode.wp P (.seq c28_30 c28_32) Q a σ := id rfl
@[go_sem] theorem c28_34_wp (P : Program) (Q : APost) (a : AFr) (σ : ASt) : c28_34.wp P Q a σ = ACode.wp P (.seq c28_29 c28_33) Q a σ := id rfl
@[go_sem] theorem c28_35_wp (P : Program) (Q : APost) (a : AFr) (σ : ASt) : c28_35.wp P Q a σ = ACode.wp P (.seq c28_17 c28_34) Q a σ := id rfl
@[go_sem] theorem c28_36_wp (P : Program) (Q : APost) (a : AFr) (σ : ASt) : c28_36.wp P Q a σ = ACode.wp P (.seq c28_12 c28_35) Q a σ := id rfl
@[go_sem] theorem c28_37_wp (P : Program) (Q : APost) (a : AFr) (σ : ASt) : c28_37.wp P Q a σ = ACode.wp P (.seq c28_11 c28_36) Q a σ := id rfl
@[go_sem] theorem c28_38_wp (P : Program) (Q : APost) (a : AFr) (σ : ASt) : c28_38.wp P Q a σ = ACode.wp P (.seq c28_10 c28_37) Q a σ := id rfl
@[go_sem] theorem c28_39_wp (P : Program) (Q : APost) (a : AFr) (σ : ASt) : c28_39.wp P Q a σ = ACode.wp P (.seq c28_5 c28_38) Q a σ := id rfl
@[go_sem] theorem c28_40_wp (P : Program) (Q : APost) (a : AFr) (σ : ASt) : c28_40.wp P Q a σ = ACode.wp P (.seq c28_0 c28_39) Q a σ := id rfl
def c28 : AFn := ⟨56, [.t 4], c28_40⟩
set_option maxRecDepth 100000 in
theorem c28_ok : compF Tryd.prog Tryd.f28 = some c28 := by kernel_rfl
theorem a28 {args : List AV} {σ : ASt} {R : AV → ASt → Prop} (hl : args.length ≤ 56) (h : c28_40.wp Tryd.prog (RetQ [.t 4] R) (init args) σ) : ACalls Tryd.prog 28 args σ R := acalls_of Tryd.func28 c28_ok hl h

end Go.A
