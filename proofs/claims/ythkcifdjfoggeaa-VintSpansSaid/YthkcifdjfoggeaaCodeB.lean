/- The functions, compiled: by program (wip/gencode.py). -/
import Derived.Test.YthkcifdjfoggeaaBk
import Derived.Test.YthkcifdjfoggeaaProg
import Derived.KernelRfl
namespace Go.A
open Go.Proofs

/-! 6: tabular/tabularlaw02.VintSpans -/
def c6_0 : ACode := .ops [
    ⟨(some 4), none, .e (.box (.t 1)), []⟩,
    ⟨(some 6), none, .q (.mv (.v (.bool false))), []⟩]
def c6_1 : ACode := .ops [
    ⟨(some 20), none, .q (.mv (.t 0)), []⟩,
    ⟨(some 21), none, .e (.call 20 [(.t 20)]), []⟩,
    ⟨(some 7), none, .q (.mv (.t 21)), []⟩]
def c6_2 : ACode := .ops [
    ⟨(some 22), none, .q (.mv (.t 7)), []⟩,
    ⟨(some 23), none, .e (.call 21 [(.t 22)]), []⟩,
    ⟨(some 8), none, .q (.mv (.t 23)), []⟩]
def c6_3 : ACode := .ops [
    ⟨(some 24), none, .q (.mv (.t 7)), []⟩,
    ⟨(some 25), none, .q (.slto (false, 2) (.t 24) (.v (.int .i64 0))), []⟩,
    ⟨(some 7), none, .q (.mv (.t 25)), []⟩]
def c6_4 : ACode := .ops [
    ⟨(some 26), none, .q (.mv (.t 8)), []⟩,
    ⟨(some 27), none, .q (.len (.t 26)), []⟩,
    ⟨(some 28), none, .q (.mv (.v (.int .i64 0))), []⟩]
def c6_5 : ACode := .ops [
    ⟨(some 29), none, .q (.bin .lss (.t 28) (.t 27)), []⟩]
def c6_6 : ACode := .cond (.t 29) .skip (.exit 0)
def c6_7 : ACode := .ops [
    ⟨(some 30), none, .q (.mv (.t 28)), []⟩,
    ⟨(some 31), none, .q (.ia 2 (.t 26) (.t 28)), []⟩,
    ⟨(some 32), none, .q (.ld (some 2) (.t 31)), []⟩,
    ⟨(some 10), none, .e (.alloc [(.int .u64 0), (.int .u64 0)]), []⟩,
    ⟨(some 9), none, .q (.mv (.t 30)), []⟩,
    ⟨none, none, .e (.store 2 (.t 10) (.t 32)), []⟩]
def c6_8 : ACode := .ops [
    ⟨(some 33), none, .q (.mv (.t 9)), []⟩,
    ⟨(some 34), none, .q (.bin .eql (.t 33) (.v (.int .i64 0))), []⟩,
    ⟨(some 35), none, .q (.mv (.t 34)), []⟩,
    ⟨(some 36), (some (35, false)), .q (.fa 0 (.t 10)), []⟩,
    ⟨(some 37), (some (35, false)), .q (.ld none (.t 36)), []⟩,
    ⟨(some 38), (some (35, false)), .q (.mv (.t 8)), []⟩,
    ⟨(some 39), (some (35, false)), .q (.mv (.t 9)), []⟩,
    ⟨(some 40), (some (35, false)), .q (.bin .sub (.t 39) (.v (.int .i64 1))), []⟩,
    ⟨(some 41), (some (35, false)), .q (.ia 2 (.t 38) (.t 40)), []⟩,
    ⟨(some 42), (some (35, false)), .q (.fa 1 (.t 41)), []⟩,
    ⟨(some 43), (some (35, false)), .q (.ld none (.t 42)), []⟩,
    ⟨(some 44), (some (35, false)), .q (.bin .gtr (.t 37) (.t 43)), []⟩,
    ⟨(some 45), none, .q (.pick (.t 35) (.v (.bool true)) (.t 44)), []⟩]
def c6_9 : ACode := .ops [
    ⟨(some 46), none, .q (.mv (.t 7)), []⟩,
    ⟨(some 47), none, .q (.ld (some 2) (.t 10)), []⟩,
    ⟨(some 48), none, .q (.bsl 2 [(.t 47)]), []⟩,
    ⟨(some 49), none, .e (.app 2 16 [(.int .u64 0), (.int .u64 0)] (.t 46) (.t 48)), []⟩,
    ⟨(some 7), none, .q (.mv (.t 49)), []⟩]
def c6_10 : ACode := .cond (.t 45) c6_9 .skip
def c6_11 : ACode := .seq c6_8 c6_10
def c6_12 : ACode := .seq c6_7 c6_11
def c6_13 : ACode := .block 1 c6_12
def c6_14 : ACode := .ops [
    ⟨(some 50), none, .q (.bin .add (.t 28) (.v (.int .i64 1))), []⟩,
    ⟨(some 28), none, .q (.mv (.t 50)), []⟩]
def c6_15 : ACode := .seq c6_13 c6_14
def c6_16 : ACode := .seq c6_6 c6_15
def c6_17 : ACode := .seq c6_5 c6_16
def c6_18 : ACode := .loop c6_17
def c6_19 : ACode := .block 0 c6_18
def c6_20 : ACode := .seq c6_4 c6_19
def c6_21 : ACode := .ops [
    ⟨(some 51), none, .q (.mv (.t 7)), []⟩,
    ⟨(some 52), none, .e (.call 21 [(.t 51)]), []⟩,
    ⟨(some 53), none, .e (.call 22 [(.t 52)]), []⟩,
    ⟨(some 54), none, .q (.un .not (.t 53)), []⟩]
def c6_22 : ACode := .ops [
    ⟨(some 55), none, .e (.call 11 []), []⟩,
    ⟨(some 6), none, .q (.mv (.t 55)), []⟩]
def c6_23 : ACode := .seq c6_22 .ret
def c6_24 : ACode := .cond (.t 54) c6_23 .skip
def c6_25 : ACode := .seq c6_21 c6_24
def c6_26 : ACode := .ops [
    ⟨(some 56), none, .q (.mv (.t 7)), []⟩,
    ⟨(some 57), none, .q (.ld (some 2) (.t 4)), []⟩,
    ⟨(some 59), none, .q (.mv (.t 7)), []⟩,
    ⟨(some 60), none, .q (.ld (some 2) (.t 4)), []⟩,
    ⟨(some 58), none, .e (.call 19 [(.t 56), (.t 57)]), [⟨none, .ld (some 2) (.t 4), 60⟩]⟩,
    ⟨(some 61), none, .e (.call 23 [(.t 59), (.t 60)]), []⟩,
    ⟨(some 11), none, .q (.mv (.t 58)), []⟩,
    ⟨(some 12), none, .q (.mv (.t 61)), []⟩]
def c6_27 : ACode := .ops [
    ⟨(some 62), none, .e (.call 11 []), []⟩,
    ⟨(some 63), none, .q (.un .not (.t 62)), []⟩,
    ⟨(some 64), none, .q (.mv (.t 63)), []⟩,
    ⟨(some 65), (some (64, false)), .q (.mv (.t 11)), []⟩,
    ⟨(some 66), (some (64, false)), .e (.call 21 [(.t 65)]), []⟩,
    ⟨(some 67), (some (64, false)), .e (.call 22 [(.t 66)]), []⟩,
    ⟨(some 68), (some (64, false)), .q (.un .not (.t 67)), []⟩,
    ⟨(some 69), none, .q (.pick (.t 64) (.v (.bool true)) (.t 68)), []⟩,
    ⟨(some 70), none, .q (.mv (.t 69)), []⟩,
    ⟨(some 71), (some (70, false)), .q (.mv (.t 12)), []⟩,
    ⟨(some 72), (some (70, false)), .e (.call 21 [(.t 71)]), []⟩,
    ⟨(some 73), (some (70, false)), .e (.call 22 [(.t 72)]), []⟩,
    ⟨(some 74), (some (70, false)), .q (.un .not (.t 73)), []⟩,
    ⟨(some 75), none, .q (.pick (.t 70) (.v (.bool true)) (.t 74)), []⟩]
def c6_28 : ACode := .ops [
    ⟨(some 6), none, .q (.mv (.v (.bool false))), []⟩]
def c6_29 : ACode := .seq c6_28 .ret
def c6_30 : ACode := .cond (.t 75) c6_29 .skip
def c6_31 : ACode := .seq c6_27 c6_30
def c6_32 : ACode := .ops [
    ⟨(some 76), none, .q (.fa 0 (.t 4)), []⟩,
    ⟨(some 77), none, .q (.ld none (.t 76)), []⟩,
    ⟨(some 78), none, .q (.fa 1 (.t 4)), []⟩,
    ⟨(some 79), none, .q (.ld none (.t 78)), []⟩,
    ⟨(some 80), none, .q (.fa 0 (.t 4)), []⟩,
    ⟨(some 81), none, .q (.ld none (.t 80)), []⟩,
    ⟨(some 82), none, .q (.bin .sub (.t 81) (.v (.int .u64 1))), []⟩,
    ⟨(some 83), none, .q (.fa 1 (.t 4)), []⟩,
    ⟨(some 84), none, .q (.ld none (.t 83)), []⟩,
    ⟨(some 85), none, .q (.bin .sub (.t 84) (.v (.int .u64 1))), []⟩,
    ⟨(some 86), none, .q (.bsl 1 [(.t 77), (.t 79), (.t 82), (.t 85), (.v (.int .u64 0))]), []⟩,
    ⟨(some 87), none, .q (.mv (.t 2)), []⟩,
    ⟨(some 88), none, .e (.call 24 [(.t 87)]), [⟨none, .ld none (.t 76), 77⟩, ⟨none, .ld none (.t 78), 79⟩, ⟨none, .ld none (.t 80), 81⟩, ⟨none, .ld none (.t 83), 84⟩]⟩,
    ⟨(some 89), none, .e (.app 1 8 [(.int .u64 0)] (.t 86) (.t 88)), []⟩,
    ⟨(some 13), none, .q (.mv (.t 89)), []⟩]
def c6_33 : ACode := .ops [
    ⟨(some 90), none, .q (.mv (.t 7)), []⟩,
    ⟨(some 91), none, .q (.len (.t 90)), []⟩,
    ⟨(some 92), none, .q (.mv (.v (.int .i64 0))), []⟩]
def c6_34 : ACode := .ops [
    ⟨(some 93), none, .q (.bin .lss (.t 92) (.t 91)), []⟩]
def c6_35 : ACode := .cond (.t 93) .skip (.exit 2)
def c6_36 : ACode := .ops [
    ⟨(some 94), none, .q (.ia 2 (.t 90) (.t 92)), []⟩,
    ⟨(some 95), none, .q (.ld (some 2) (.t 94)), []⟩,
    ⟨(some 15), none, .e (.alloc [(.int .u64 0), (.int .u64 0)]), []⟩,
    ⟨none, none, .e (.store 2 (.t 15) (.t 95)), []⟩]
def c6_37 : ACode := .ops [
    ⟨(some 96), none, .q (.mv (.t 13)), []⟩,
    ⟨(some 97), none, .q (.fa 0 (.t 15)), []⟩,
    ⟨(some 98), none, .q (.ld none (.t 97)), []⟩,
    ⟨(some 99), none, .q (.fa 1 (.t 15)), []⟩,
    ⟨(some 100), none, .q (.ld none (.t 99)), []⟩,
    ⟨(some 101), none, .q (.fa 0 (.t 15)), []⟩,
    ⟨(some 102), none, .q (.ld none (.t 101)), []⟩,
    ⟨(some 103), none, .q (.bin .sub (.t 102) (.v (.int .u64 1))), []⟩,
    ⟨(some 104), none, .q (.fa 1 (.t 15)), []⟩,
    ⟨(some 105), none, .q (.ld none (.t 104)), []⟩,
    ⟨(some 106), none, .q (.bin .sub (.t 105) (.v (.int .u64 1))), []⟩,
    ⟨(some 107), none, .q (.bsl 1 [(.t 98), (.t 100), (.t 103), (.t 106)]), []⟩,
    ⟨(some 108), none, .e (.app 1 8 [(.int .u64 0)] (.t 96) (.t 107)), []⟩,
    ⟨(some 13), none, .q (.mv (.t 108)), []⟩]
def c6_38 : ACode := .seq c6_36 c6_37
def c6_39 : ACode := .block 3 c6_38
def c6_40 : ACode := .ops [
    ⟨(some 109), none, .q (.bin .add (.t 92) (.v (.int .i64 1))), []⟩,
    ⟨(some 92), none, .q (.mv (.t 109)), []⟩]
def c6_41 : ACode := .seq c6_39 c6_40
def c6_42 : ACode := .seq c6_35 c6_41
def c6_43 : ACode := .seq c6_34 c6_42
def c6_44 : ACode := .loop c6_43
def c6_45 : ACode := .block 2 c6_44
def c6_46 : ACode := .seq c6_33 c6_45
def c6_47 : ACode := .ops [
    ⟨(some 110), none, .q (.mv (.t 13)), []⟩,
    ⟨(some 111), none, .q (.len (.t 110)), []⟩,
    ⟨(some 112), none, .q (.mv (.v (.int .i64 0))), []⟩]
def c6_48 : ACode := .ops [
    ⟨(some 113), none, .q (.bin .lss (.t 112) (.t 111)), []⟩]
def c6_49 : ACode := .cond (.t 113) .skip (.exit 4)
def c6_50 : ACode := .ops [
    ⟨(some 114), none, .q (.ia 1 (.t 110) (.t 112)), []⟩,
    ⟨(some 115), none, .q (.ld none (.t 114)), []⟩,
    ⟨(some 17), none, .q (.mv (.t 115)), []⟩]
def c6_51 : ACode := .ops [
    ⟨(some 116), none, .q (.mv (.t 7)), []⟩,
    ⟨(some 117), none, .e (.call 21 [(.t 116)]), []⟩,
    ⟨(some 118), none, .q (.mv (.t 17)), []⟩,
    ⟨(some 119), none, .e (.call 25 [(.t 117), (.t 118)]), []⟩,
    ⟨(some 18), none, .q (.mv (.t 119)), []⟩]
def c6_52 : ACode := .ops [
    ⟨(some 120), none, .q (.fa 0 (.t 4)), []⟩,
    ⟨(some 121), none, .q (.ld none (.t 120)), []⟩,
    ⟨(some 122), none, .q (.mv (.t 17)), []⟩,
    ⟨(some 123), none, .q (.bin .leq (.t 121) (.t 122)), []⟩,
    ⟨(some 124), none, .q (.mv (.t 123)), []⟩,
    ⟨(some 125), (some (124, true)), .q (.mv (.t 17)), []⟩,
    ⟨(some 126), (some (124, true)), .q (.fa 1 (.t 4)), []⟩,
    ⟨(some 127), (some (124, true)), .q (.ld none (.t 126)), []⟩,
    ⟨(some 128), (some (124, true)), .q (.bin .lss (.t 125) (.t 127)), []⟩,
    ⟨(some 129), none, .q (.pick (.t 124) (.t 128) (.v (.bool false))), []⟩,
    ⟨(some 19), none, .q (.mv (.t 129)), []⟩]
def c6_53 : ACode := .ops [
    ⟨(some 130), none, .q (.mv (.t 7)), []⟩,
    ⟨(some 131), none, .q (.mv (.t 17)), []⟩,
    ⟨(some 132), none, .e (.call 26 [(.t 130), (.t 131)]), []⟩,
    ⟨(some 133), none, .q (.mv (.t 18)), []⟩,
    ⟨(some 134), none, .q (.eq .b true (.t 132) (.t 133)), []⟩,
    ⟨(some 135), none, .q (.mv (.t 134)), []⟩,
    ⟨(some 136), (some (135, false)), .q (.mv (.t 11)), []⟩,
    ⟨(some 137), (some (135, false)), .q (.mv (.t 17)), []⟩,
    ⟨(some 138), (some (135, false)), .e (.call 26 [(.t 136), (.t 137)]), []⟩,
    ⟨(some 139), (some (135, false)), .q (.mv (.t 18)), []⟩,
    ⟨(some 140), (some (135, false)), .q (.mv (.t 139)), []⟩,
    ⟨(some 141), (some (140, false)), .q (.mv (.t 19)), []⟩,
    ⟨(some 142), (some (135, false)), .q (.pick (.t 140) (.v (.bool true)) (.t 141)), []⟩,
    ⟨(some 143), (some (135, false)), .q (.eq .b true (.t 138) (.t 142)), []⟩,
    ⟨(some 144), none, .q (.pick (.t 135) (.v (.bool true)) (.t 143)), []⟩,
    ⟨(some 145), none, .q (.mv (.t 144)), []⟩,
    ⟨(some 146), (some (145, false)), .q (.mv (.t 12)), []⟩,
    ⟨(some 147), (some (145, false)), .q (.mv (.t 17)), []⟩,
    ⟨(some 148), (some (145, false)), .e (.call 26 [(.t 146), (.t 147)]), []⟩,
    ⟨(some 149), (some (145, false)), .q (.mv (.t 18)), []⟩,
    ⟨(some 150), (some (145, false)), .q (.mv (.t 149)), []⟩,
    ⟨(some 151), (some (150, true)), .q (.mv (.t 19)), []⟩,
    ⟨(some 152), (some (150, true)), .q (.un .not (.t 151)), []⟩,
    ⟨(some 153), (some (145, false)), .q (.pick (.t 150) (.t 152) (.v (.bool false))), []⟩,
    ⟨(some 154), (some (145, false)), .q (.eq .b true (.t 148) (.t 153)), []⟩,
    ⟨(some 155), none, .q (.pick (.t 145) (.v (.bool true)) (.t 154)), []⟩]
def c6_54 : ACode := .ops [
    ⟨(some 6), none, .q (.mv (.v (.bool false))), []⟩]
def c6_55 : ACode := .seq c6_54 .ret
def c6_56 : ACode := .cond (.t 155) c6_55 .skip
def c6_57 : ACode := .seq c6_53 c6_56
def c6_58 : ACode := .seq c6_52 c6_57
def c6_59 : ACode := .seq c6_51 c6_58
def c6_60 : ACode := .seq c6_50 c6_59
def c6_61 : ACode := .block 5 c6_60
def c6_62 : ACode := .ops [
    ⟨(some 156), none, .q (.bin .add (.t 112) (.v (.int .i64 1))), []⟩,
    ⟨(some 112), none, .q (.mv (.t 156)), []⟩]
def c6_63 : ACode := .seq c6_61 c6_62
def c6_64 : ACode := .seq c6_49 c6_63
def c6_65 : ACode := .seq c6_48 c6_64
def c6_66 : ACode := .loop c6_65
def c6_67 : ACode := .block 4 c6_66
def c6_68 : ACode := .seq c6_47 c6_67
def c6_69 : ACode := .ops [
    ⟨(some 6), none, .q (.mv (.v (.bool true))), []⟩]
def c6_70 : ACode := .seq c6_69 .ret
def c6_71 : ACode := .seq c6_68 c6_70
def c6_72 : ACode := .seq c6_46 c6_71
def c6_73 : ACode := .seq c6_32 c6_72
def c6_74 : ACode := .seq c6_31 c6_73
def c6_75 : ACode := .seq c6_26 c6_74
def c6_76 : ACode := .seq c6_25 c6_75
def c6_77 : ACode := .seq c6_20 c6_76
def c6_78 : ACode := .seq c6_3 c6_77
def c6_79 : ACode := .seq c6_2 c6_78
def c6_80 : ACode := .seq c6_1 c6_79
def c6_81 : ACode := .seq c6_0 c6_80
@[go_sem] theorem c6_0_wp (P : Program) (Q : APost) (a : AFr) (σ : ASt) : c6_0.wp P Q a σ = ACode.wp P (.ops [
    ⟨(some 4), none, .e (.box (.t 1)), []⟩,
    ⟨(some 6), none, .q (.mv (.v (.bool false))), []⟩]) Q a σ := id rfl
@[go_sem] theorem c6_1_wp (P : Program) (Q : APost) (a : AFr) (σ : ASt) : c6_1.wp P Q a σ = ACode.wp P (.ops [
    ⟨(some 20), none, .q (.mv (.t 0)), []⟩,
    ⟨(some 21), none, .e (.call 20 [(.t 20)]), []⟩,
    ⟨(some 7), none, .q (.mv (.t 21)), []⟩]) Q a σ := id rfl
@[go_sem] theorem c6_2_wp (P : Program) (Q : APost) (a : AFr) (σ : ASt) : c6_2.wp P Q a σ = ACode.wp P (.ops [
    ⟨(some 22), none, .q (.mv (.t 7)), []⟩,
    ⟨(some 23), none, .e (.call 21 [(.t 22)]), []⟩,
    ⟨(some 8), none, .q (.mv (.t 23)), []⟩]) Q a σ := id rfl
@[go_sem] theorem c6_3_wp (P : Program) (Q : APost) (a : AFr) (σ : ASt) : c6_3.wp P Q a σ = ACode.wp P (.ops [
    ⟨(some 24), none, .q (.mv (.t 7)), []⟩,
    ⟨(some 25), none, .q (.slto (false, 2) (.t 24) (.v (.int .i64 0))), []⟩,
    ⟨(some 7), none, .q (.mv (.t 25)), []⟩]) Q a σ := id rfl
@[go_sem] theorem c6_4_wp (P : Program) (Q : APost) (a : AFr) (σ : ASt) : c6_4.wp P Q a σ = ACode.wp P (.ops [
    ⟨(some 26), none, .q (.mv (.t 8)), []⟩,
    ⟨(some 27), none, .q (.len (.t 26)), []⟩,
    ⟨(some 28), none, .q (.mv (.v (.int .i64 0))), []⟩]) Q a σ := id rfl
@[go_sem] theorem c6_5_wp (P : Program) (Q : APost) (a : AFr) (σ : ASt) : c6_5.wp P Q a σ = ACode.wp P (.ops [
    ⟨(some 29), none, .q (.bin .lss (.t 28) (.t 27)), []⟩]) Q a σ := id rfl
@[go_sem] theorem c6_6_wp (P : Program) (Q : APost) (a : AFr) (σ : ASt) : c6_6.wp P Q a σ = ACode.wp P (.cond (.t 29) .skip (.exit 0)) Q a σ := id rfl
@[go_sem] theorem c6_7_wp (P : Program) (Q : APost) (a : AFr) (σ : ASt) : c6_7.wp P Q a σ = ACode.wp P (.ops [
    ⟨(some 30), none, .q (.mv (.t 28)), []⟩,
    ⟨(some 31), none, .q (.ia 2 (.t 26) (.t 28)), []⟩,
    ⟨(some 32), none, .q (.ld (some 2) (.t 31)), []⟩,
    ⟨(some 10), none, .e (.alloc [(.int .u64 0), (.int .u64 0)]), []⟩,
    ⟨(some 9), none, .q (.mv (.t 30)), []⟩,
    ⟨none, none, .e (.store 2 (.t 10) (.t 32)), []⟩]) Q a σ := id rfl
@[go_sem] theorem c6_8_wp (P : Program) (Q : APost) (a : AFr) (σ : ASt) : c6_8.wp P Q a σ = ACode.wp P (.ops [
    ⟨(some 33), none, .q (.mv (.t 9)), []⟩,
    ⟨(some 34), none, .q (.bin .eql (.t 33) (.v (.int .i64 0))), []⟩,
    ⟨(some 35), none, .q (.mv (.t 34)), []⟩,
    ⟨(some 36), (some (35, false)), .q (.fa 0 (.t 10)), []⟩,
    ⟨(some 37), (some (35, false)), .q (.ld none (.t 36)), []⟩,
    ⟨(some 38), (some (35, false)), .q (.mv (.t 8)), []⟩,
    ⟨(some 39), (some (35, false)), .q (.mv (.t 9)), []⟩,
    ⟨(some 40), (some (35, false)), .q (.bin .sub (.t 39) (.v (.int .i64 1))), []⟩,
    ⟨(some 41), (some (35, false)), .q (.ia 2 (.t 38) (.t 40)), []⟩,
    ⟨(some 42), (some (35, false)), .q (.fa 1 (.t 41)), []⟩,
    ⟨(some 43), (some (35, false)), .q (.ld none (.t 42)), []⟩,
    ⟨(some 44), (some (35, false)), .q (.bin .gtr (.t 37) (.t 43)), []⟩,
    ⟨(some 45), none, .q (.pick (.t 35) (.v (.bool true)) (.t 44)), []⟩]) Q a σ := id rfl
@[go_sem] theorem c6_9_wp (P : Program) (Q : APost) (a : AFr) (σ : ASt) : c6_9.wp P Q a σ = ACode.wp P (.ops [
    ⟨(some 46), none, .q (.mv (.t 7)), []⟩,
    ⟨(some 47), none, .q (.ld (some 2) (.t 10)), []⟩,
    ⟨(some 48), none, .q (.bsl 2 [(.t 47)]), []⟩,
    ⟨(some 49), none, .e (.app 2 16 [(.int .u64 0), (.int .u64 0)] (.t 46) (.t 48)), []⟩,
    ⟨(some 7), none, .q (.mv (.t 49)), []⟩]) Q a σ := id rfl
@[go_sem] theorem c6_10_wp (P : Program) (Q : APost) (a : AFr) (σ : ASt) : c6_10.wp P Q a σ = ACode.wp P (.cond (.t 45) c6_9 .skip) Q a σ := id rfl
@[go_sem] theorem c6_11_wp (P : Program) (Q : APost) (a : AFr) (σ : ASt) : c6_11.wp P Q a σ = ACode.wp P (.seq c6_8 c6_10) Q a σ := id rfl
@[go_sem] theorem c6_12_wp (P : Program) (Q : APost) (a : AFr) (σ : ASt) : c6_12.wp P Q a σ = ACode.wp P (.seq c6_7 c6_11) Q a σ := id rfl
@[go_sem] theorem c6_13_wp (P : Program) (Q : APost) (a : AFr) (σ : ASt) : c6_13.wp P Q a σ = ACode.wp P (.block 1 c6_12) Q a σ := id rfl
@[go_sem] theorem c6_14_wp (P : Program) (Q : APost) (a : AFr) (σ : ASt) : c6_14.wp P Q a σ = ACode.wp P (.ops [
    ⟨(some 50), none, .q (.bin .add (.t 28) (.v (.int .i64 1))), []⟩,
    ⟨(some 28), none, .q (.mv (.t 50)), []⟩]) Q a σ := id rfl
@[go_sem] theorem c6_15_wp (P : Program) (Q : APost) (a : AFr) (σ : ASt) : c6_15.wp P Q a σ = ACode.wp P (.seq c6_13 c6_14) Q a σ := id rfl
@[go_sem] theorem c6_16_wp (P : Program) (Q : APost) (a : AFr) (σ : ASt) : c6_16.wp P Q a σ = ACode.wp P (.seq c6_6 c6_15) Q a σ := id rfl
@[go_sem] theorem c6_17_wp (P : Program) (Q : APost) (a : AFr) (σ : ASt) : c6_17.wp P Q a σ = ACode.wp P (.seq c6_5 c6_16) Q a σ := id rfl
@[go_sem] theorem c6_18_wp (P : Program) (Q : APost) (a : AFr) (σ : ASt) : c6_18.wp P Q a σ = ACode.wp P (.loop c6_17) Q a σ := id rfl
@[go_sem] theorem c6_19_wp (P : Program) (Q : APost) (a : AFr) (σ : ASt) : c6_19.wp P Q a σ = ACode.wp P (.block 0 c6_18) Q a σ := id rfl
@[go_sem] theorem c6_20_wp (P : Program) (Q : APost) (a : AFr) (σ : ASt) : c6_20.wp P Q a σ = ACode.wp P (.seq c6_4 c6_19) Q a σ := id rfl
@[go_sem] theorem c6_21_wp (P : Program) (Q : APost) (a : AFr) (σ : ASt) : c6_21.wp P Q a σ = ACode.wp P (.ops [
    ⟨(some 51), none, .q (.mv (.t 7)), []⟩,
    ⟨(some 52), none, .e (.call 21 [(.t 51)]), []⟩,
    ⟨(some 53), none, .e (.call 22 [(.t 52)]), []⟩,
    ⟨(some 54), none, .q (.un .not (.t 53)), []⟩]) Q a σ := id rfl
@[go_sem] theorem c6_22_wp (P : Program) (Q : APost) (a : AFr) (σ : ASt) : c6_22.wp P Q a σ = ACode.wp P (.ops [
    ⟨(some 55), none, .e (.call 11 []), []⟩,
    ⟨(some 6), none, .q (.mv (.t 55)), []⟩]) Q a σ := id rfl
@[go_sem] theorem c6_23_wp (P : Program) (Q : APost) (a : AFr) (σ : ASt) : c6_23.wp P Q a σ = ACode.wp P (.seq c6_22 .ret) Q a σ := id rfl
@[go_sem] theorem c6_24_wp (P : Program) (Q : APost) (a : AFr) (σ : ASt) : c6_24.wp P Q a σ = ACode.wp P (.cond (.t 54) c6_23 .skip) Q a σ := id rfl
@[go_sem] theorem c6_25_wp (P : Program) (Q : APost) (a : AFr) (σ : ASt) : c6_25.wp P Q a σ = ACode.wp P (.seq c6_21 c6_24) Q a σ := id rfl
@[go_sem] theorem c6_26_wp (P : Program) (Q : APost) (a : AFr) (σ : ASt) : c6_26.wp P Q a σ = ACode.wp P (.ops [
    ⟨(some 56), none, .q (.mv (.t 7)), []⟩,
    ⟨(some 57), none, .q (.ld (some 2) (.t 4)), []⟩,
    ⟨(some 59), none, .q (.mv (.t 7)), []⟩,
    ⟨(some 60), none, .q (.ld (some 2) (.t 4)), []⟩,
    ⟨(some 58), none, .e (.call 19 [(.t 56), (.t 57)]), [⟨none, .ld (some 2) (.t 4), 60⟩]⟩,
    ⟨(some 61), none, .e (.call 23 [(.t 59), (.t 60)]), []⟩,
    ⟨(some 11), none, .q (.mv (.t 58)), []⟩,
    ⟨(some 12), none, .q (.mv (.t 61)), []⟩]) Q a σ := id rfl
@[go_sem] theorem c6_27_wp (P : Program) (Q : APost) (a : AFr) (σ : ASt) : c6_27.wp P Q a σ = ACode.wp P (.ops [
    ⟨(some 62), none, .e (.call 11 []), []⟩,
    ⟨(some 63), none, .q (.un .not (.t 62)), []⟩,
    ⟨(some 64), none, .q (.mv (.t 63)), []⟩,
    ⟨(some 65), (some (64, false)), .q (.mv (.t 11)), []⟩,
    ⟨(some 66), (some (64, false)), .e (.call 21 [(.t 65)]), []⟩,
    ⟨(some 67), (some (64, false)), .e (.call 22 [(.t 66)]), []⟩,
    ⟨(some 68), (some (64, false)), .q (.un .not (.t 67)), []⟩,
    ⟨(some 69), none, .q (.pick (.t 64) (.v (.bool true)) (.t 68)), []⟩,
    ⟨(some 70), none, .q (.mv (.t 69)), []⟩,
    ⟨(some 71), (some (70, false)), .q (.mv (.t 12)), []⟩,
    ⟨(some 72), (some (70, false)), .e (.call 21 [(.t 71)]), []⟩,
    ⟨(some 73), (some (70, false)), .e (.call 22 [(.t 72)]), []⟩,
    ⟨(some 74), (some (70, false)), .q (.un .not (.t 73)), []⟩,
    ⟨(some 75), none, .q (.pick (.t 70) (.v (.bool true)) (.t 74)), []⟩]) Q a σ := id rfl
@[go_sem] theorem c6_28_wp (P : Program) (Q : APost) (a : AFr) (σ : ASt) : c6_28.wp P Q a σ = ACode.wp P (.ops [
    ⟨(some 6), none, .q (.mv (.v (.bool false))), []⟩]) Q a σ := id rfl
@[go_sem] theorem c6_29_wp (P : Program) (Q : APost) (a : AFr) (σ : ASt) : c6_29.wp P Q a σ = ACode.wp P (.seq c6_28 .ret) Q a σ := id rfl
@[go_sem] theorem c6_30_wp (P : Program) (Q : APost) (a : AFr) (σ : ASt) : c6_30.wp P Q a σ = ACode.wp P (.cond (.t 75) c6_29 .skip) Q a σ := id rfl
@[go_sem] theorem c6_31_wp (P : Program) (Q : APost) (a : AFr) (σ : ASt) : c6_31.wp P Q a σ = ACode.wp P (.seq c6_27 c6_30) Q a σ := id rfl
@[go_sem] theorem c6_32_wp (P : Program) (Q : APost) (a : AFr) (σ : ASt) : c6_32.wp P Q a σ = ACode.wp P (.ops [
    ⟨(some 76), none, .q (.fa 0 (.t 4)), []⟩,
    ⟨(some 77), none, .q (.ld none (.t 76)), []⟩,
    ⟨(some 78), none, .q (.fa 1 (.t 4)), []⟩,
    ⟨(some 79), none, .q (.ld none (.t 78)), []⟩,
    ⟨(some 80), none, .q (.fa 0 (.t 4)), []⟩,
    ⟨(some 81), none, .q (.ld none (.t 80)), []⟩,
    ⟨(some 82), none, .q (.bin .sub (.t 81) (.v (.int .u64 1))), []⟩,
    ⟨(some 83), none, .q (.fa 1 (.t 4)), []⟩,
    ⟨(some 84), none, .q (.ld none (.t 83)), []⟩,
    ⟨(some 85), none, .q (.bin .sub (.t 84) (.v (.int .u64 1))), []⟩,
    ⟨(some 86), none, .q (.bsl 1 [(.t 77), (.t 79), (.t 82), (.t 85), (.v (.int .u64 0))]), []⟩,
    ⟨(some 87), none, .q (.mv (.t 2)), []⟩,
    ⟨(some 88), none, .e (.call 24 [(.t 87)]), [⟨none, .ld none (.t 76), 77⟩, ⟨none, .ld none (.t 78), 79⟩, ⟨none, .ld none (.t 80), 81⟩, ⟨none, .ld none (.t 83), 84⟩]⟩,
    ⟨(some 89), none, .e (.app 1 8 [(.int .u64 0)] (.t 86) (.t 88)), []⟩,
    ⟨(some 13), none, .q (.mv (.t 89)), []⟩]) Q a σ := id rfl
@[go_sem] theorem c6_33_wp (P : Program) (Q : APost) (a : AFr) (σ : ASt) : c6_33.wp P Q a σ = ACode.wp P (.ops [
    ⟨(some 90), none, .q (.mv (.t 7)), []⟩,
    ⟨(some 91), none, .q (.len (.t 90)), []⟩,
    ⟨(some 92), none, .q (.mv (.v (.int .i64 0))), []⟩]) Q a σ := id rfl
@[go_sem] theorem c6_34_wp (P : Program) (Q : APost) (a : AFr) (σ : ASt) : c6_34.wp P Q a σ = ACode.wp P (.ops [
    ⟨(some 93), none, .q (.bin .lss (.t 92) (.t 91)), []⟩]) Q a σ := id rfl
@[go_sem] theorem c6_35_wp (P : Program) (Q : APost) (a : AFr) (σ : ASt) : c6_35.wp P Q a σ = ACode.wp P (.cond (.t 93) .skip (.exit 2)) Q a σ := id rfl
@[go_sem] theorem c6_36_wp (P : Program) (Q : APost) (a : AFr) (σ : ASt) : c6_36.wp P Q a σ = ACode.wp P (.ops [
    ⟨(some 94), none, .q (.ia 2 (.t 90) (.t 92)), []⟩,
    ⟨(some 95), none, .q (.ld (some 2) (.t 94)), []⟩,
    ⟨(some 15), none, .e (.alloc [(.int .u64 0), (.int .u64 0)]), []⟩,
    ⟨none, none, .e (.store 2 (.t 15) (.t 95)), []⟩]) Q a σ := id rfl
@[go_sem] theorem c6_37_wp (P : Program) (Q : APost) (a : AFr) (σ : ASt) : c6_37.wp P Q a σ = ACode.wp P (.ops [
    ⟨(some 96), none, .q (.mv (.t 13)), []⟩,
    ⟨(some 97), none, .q (.fa 0 (.t 15)), []⟩,
    ⟨(some 98), none, .q (.ld none (.t 97)), []⟩,
    ⟨(some 99), none, .q (.fa 1 (.t 15)), []⟩,
    ⟨(some 100), none, .q (.ld none (.t 99)), []⟩,
    ⟨(some 101), none, .q (.fa 0 (.t 15)), []⟩,
    ⟨(some 102), none, .q (.ld none (.t 101)), []⟩,
    ⟨(some 103), none, .q (.bin .sub (.t 102) (.v (.int .u64 1))), []⟩,
    ⟨(some 104), none, .q (.fa 1 (.t 15)), []⟩,
    ⟨(some 105), none, .q (.ld none (.t 104)), []⟩,
    ⟨(some 106), none, .q (.bin .sub (.t 105) (.v (.int .u64 1))), []⟩,
    ⟨(some 107), none, .q (.bsl 1 [(.t 98), (.t 100), (.t 103), (.t 106)]), []⟩,
    ⟨(some 108), none, .e (.app 1 8 [(.int .u64 0)] (.t 96) (.t 107)), []⟩,
    ⟨(some 13), none, .q (.mv (.t 108)), []⟩]) Q a σ := id rfl
@[go_sem] theorem c6_38_wp (P : Program) (Q : APost) (a : AFr) (σ : ASt) : c6_38.wp P Q a σ = ACode.wp P (.seq c6_36 c6_37) Q a σ := id rfl
@[go_sem] theorem c6_39_wp (P : Program) (Q : APost) (a : AFr) (σ : ASt) : c6_39.wp P Q a σ = ACode.wp P (.block 3 c6_38) Q a σ := id rfl
@[go_sem] theorem c6_40_wp (P : Program) (Q : APost) (a : AFr) (σ : ASt) : c6_40.wp P Q a σ = ACode.wp P (.ops [
    ⟨(some 109), none, .q (.bin .add (.t 92) (.v (.int .i64 1))), []⟩,
    ⟨(some 92), none, .q (.mv (.t 109)), []⟩]) Q a σ := id rfl
@[go_sem] theorem c6_41_wp (P : Program) (Q : APost) (a : AFr) (σ : ASt) : c6_41.wp P Q a σ = ACode.wp P (.seq c6_39 c6_40) Q a σ := id rfl
@[go_sem] theorem c6_42_wp (P : Program) (Q : APost) (a : AFr) (σ : ASt) : c6_42.wp P Q a σ = ACode.wp P (.seq c6_35 c6_41) Q a σ := id rfl
@[go_sem] theorem c6_43_wp (P : Program) (Q : APost) (a : AFr) (σ : ASt) : c6_43.wp P Q a σ = ACode.wp P (.seq c6_34 c6_42) Q a σ := id rfl
@[go_sem] theorem c6_44_wp (P : Program) (Q : APost) (a : AFr) (σ : ASt) : c6_44.wp P Q a σ = ACode.wp P (.loop c6_43) Q a σ := id rfl
@[go_sem] theorem c6_45_wp (P : Program) (Q : APost) (a : AFr) (σ : ASt) : c6_45.wp P Q a σ = ACode.wp P (.block 2 c6_44) Q a σ := id rfl
@[go_sem] theorem c6_46_wp (P : Program) (Q : APost) (a : AFr) (σ : ASt) : c6_46.wp P Q a σ = ACode.wp P (.seq c6_33 c6_45) Q a σ := id rfl
@[go_sem] theorem c6_47_wp (P : Program) (Q : APost) (a : AFr) (σ : ASt) : c6_47.wp P Q a σ = ACode.wp P (.ops [
    ⟨(some 110), none, .q (.mv (.t 13)), []⟩,
    ⟨(some 111), none, .q (.len (.t 110)), []⟩,
    ⟨(some 112), none, .q (.mv (.v (.int .i64 0))), []⟩]) Q a σ := id rfl
@[go_sem] theorem c6_48_wp (P : Program) (Q : APost) (a : AFr) (σ : ASt) : c6_48.wp P Q a σ = ACode.wp P (.ops [
    ⟨(some 113), none, .q (.bin .lss (.t 112) (.t 111)), []⟩]) Q a σ := id rfl
@[go_sem] theorem c6_49_wp (P : Program) (Q : APost) (a : AFr) (σ : ASt) : c6_49.wp P Q a σ = ACode.wp P (.cond (.t 113) .skip (.exit 4)) Q a σ := id rfl
@[go_sem] theorem c6_50_wp (P : Program) (Q : APost) (a : AFr) (σ : ASt) : c6_50.wp P Q a σ = ACode.wp P (.ops [
    ⟨(some 114), none, .q (.ia 1 (.t 110) (.t 112)), []⟩,
    ⟨(some 115), none, .q (.ld none (.t 114)), []⟩,
    ⟨(some 17), none, .q (.mv (.t 115)), []⟩]) Q a σ := id rfl
@[go_sem] theorem c6_51_wp (P : Program) (Q : APost) (a : AFr) (σ : ASt) : c6_51.wp P Q a σ = ACode.wp P (.ops [
    ⟨(some 116), none, .q (.mv (.t 7)), []⟩,
    ⟨(some 117), none, .e (.call 21 [(.t 116)]), []⟩,
    ⟨(some 118), none, .q (.mv (.t 17)), []⟩,
    ⟨(some 119), none, .e (.call 25 [(.t 117), (.t 118)]), []⟩,
    ⟨(some 18), none, .q (.mv (.t 119)), []⟩]) Q a σ := id rfl
@[go_sem] theorem c6_52_wp (P : Program) (Q : APost) (a : AFr) (σ : ASt) : c6_52.wp P Q a σ = ACode.wp P (.ops [
    ⟨(some 120), none, .q (.fa 0 (.t 4)), []⟩,
    ⟨(some 121), none, .q (.ld none (.t 120)), []⟩,
    ⟨(some 122), none, .q (.mv (.t 17)), []⟩,
    ⟨(some 123), none, .q (.bin .leq (.t 121) (.t 122)), []⟩,
    ⟨(some 124), none, .q (.mv (.t 123)), []⟩,
    ⟨(some 125), (some (124, true)), .q (.mv (.t 17)), []⟩,
    ⟨(some 126), (some (124, true)), .q (.fa 1 (.t 4)), []⟩,
    ⟨(some 127), (some (124, true)), .q (.ld none (.t 126)), []⟩,
    ⟨(some 128), (some (124, true)), .q (.bin .lss (.t 125) (.t 127)), []⟩,
    ⟨(some 129), none, .q (.pick (.t 124) (.t 128) (.v (.bool false))), []⟩,
    ⟨(some 19), none, .q (.mv (.t 129)), []⟩]) Q a σ := id rfl
@[go_sem] theorem c6_53_wp (P : Program) (Q : APost) (a : AFr) (σ : ASt) : c6_53.wp P Q a σ = ACode.wp P (.ops [
    ⟨(some 130), none, .q (.mv (.t 7)), []⟩,
    ⟨(some 131), none, .q (.mv (.t 17)), []⟩,
    ⟨(some 132), none, .e (.call 26 [(.t 130), (.t 131)]), []⟩,
    ⟨(some 133), none, .q (.mv (.t 18)), []⟩,
    ⟨(some 134), none, .q (.eq .b true (.t 132) (.t 133)), []⟩,
    ⟨(some 135), none, .q (.mv (.t 134)), []⟩,
    ⟨(some 136), (some (135, false)), .q (.mv (.t 11)), []⟩,
    ⟨(some 137), (some (135, false)), .q (.mv (.t 17)), []⟩,
    ⟨(some 138), (some (135, false)), .e (.call 26 [(.t 136), (.t 137)]), []⟩,
    ⟨(some 139), (some (135, false)), .q (.mv (.t 18)), []⟩,
    ⟨(some 140), (some (135, false)), .q (.mv (.t 139)), []⟩,
    ⟨(some 141), (some (140, false)), .q (.mv (.t 19)), []⟩,
    ⟨(some 142), (some (135, false)), .q (.pick (.t 140) (.v (.bool true)) (.t 141)), []⟩,
    ⟨(some 143), (some (135, false)), .q (.eq .b true (.t 138) (.t 142)), []⟩,
    ⟨(some 144), none, .q (.pick (.t 135) (.v (.bool true)) (.t 143)), []⟩,
    ⟨(some 145), none, .q (.mv (.t 144)), []⟩,
    ⟨(some 146), (some (145, false)), .q (.mv (.t 12)), []⟩,
    ⟨(some 147), (some (145, false)), .q (.mv (.t 17)), []⟩,
    ⟨(some 148), (some (145, false)), .e (.call 26 [(.t 146), (.t 147)]), []⟩,
    ⟨(some 149), (some (145, false)), .q (.mv (.t 18)), []⟩,
    ⟨(some 150), (some (145, false)), .q (.mv (.t 149)), []⟩,
    ⟨(some 151), (some (150, true)), .q (.mv (.t 19)), []⟩,
    ⟨(some 152), (some (150, true)), .q (.un .not (.t 151)), []⟩,
    ⟨(some 153), (some (145, false)), .q (.pick (.t 150) (.t 152) (.v (.bool false))), []⟩,
    ⟨(some 154), (some (145, false)), .q (.eq .b true (.t 148) (.t 153)), []⟩,
    ⟨(some 155), none, .q (.pick (.t 145) (.v (.bool true)) (.t 154)), []⟩]) Q a σ := id rfl
@[go_sem] theorem c6_54_wp (P : Program) (Q : APost) (a : AFr) (σ : ASt) : c6_54.wp P Q a σ = ACode.wp P (.ops [
    ⟨(some 6), none, .q (.mv (.v (.bool false))), []⟩]) Q a σ := id rfl
@[go_sem] theorem c6_55_wp (P : Program) (Q : APost) (a : AFr) (σ : ASt) : c6_55.wp P Q a σ = ACode.wp P (.seq c6_54 .ret) Q a σ := id rfl
@[go_sem] theorem c6_56_wp (P : Program) (Q : APost) (a : AFr) (σ : ASt) : c6_56.wp P Q a σ = ACode.wp P (.cond (.t 155) c6_55 .skip) Q a σ := id rfl
@[go_sem] theorem c6_57_wp (P : Program) (Q : APost) (a : AFr) (σ : ASt) : c6_57.wp P Q a σ = ACode.wp P (.seq c6_53 c6_56) Q a σ := id rfl
@[go_sem] theorem c6_58_wp (P : Program) (Q : APost) (a : AFr) (σ : ASt) : c6_58.wp P Q a σ = ACode.wp P (.seq c6_52 c6_57) Q a σ := id rfl
@[go_sem] theorem c6_59_wp (P : Program) (Q : APost) (a : AFr) (σ : ASt) : c6_59.wp P Q a σ = ACode.wp P (.seq c6_51 c6_58) Q a σ := id rfl
@[go_sem] theorem c6_60_wp (P : Program) (Q : APost) (a : AFr) (σ : ASt) : c6_60.wp P Q a σ = ACode.wp P (.seq c6_50 c6_59) Q a σ := id rfl
@[go_sem] theorem c6_61_wp (P : Program) (Q : APost) (a : AFr) (σ : ASt) : c6_61.wp P Q a σ = ACode.wp P (.block 5 c6_60) Q a σ := id rfl
@[go_sem] theorem c6_62_wp (P : Program) (Q : APost) (a : AFr) (σ : ASt) : c6_62.wp P Q a σ = ACode.wp P (.ops [
    ⟨(some 156), none, .q (.bin .add (.t 112) (.v (.int .i64 1))), []⟩,
    ⟨(some 112), none, .q (.mv (.t 156)), []⟩]) Q a σ := id rfl
@[go_sem] theorem c6_63_wp (P : Program) (Q : APost) (a : AFr) (σ : ASt) : c6_63.wp P Q a σ = ACode.wp P (.seq c6_61 c6_62) Q a σ := id rfl
@[go_sem] theorem c6_64_wp (P : Program) (Q : APost) (a : AFr) (σ : ASt) : c6_64.wp P Q a σ = ACode.wp P (.seq c6_49 c6_63) Q a σ := id rfl
@[go_sem] theorem c6_65_wp (P : Program) (Q : APost) (a : AFr) (σ : ASt) : c6_65.wp P Q a σ = ACode.wp P (.seq c6_48 c6_64) Q a σ := id rfl
@[go_sem] theorem c6_66_wp (P : Program) (Q : APost) (a : AFr) (σ : ASt) : c6_66.wp P Q a σ = ACode.wp P (.loop c6_65) Q a σ := id rfl
@[go_sem] theorem c6_67_wp (P : Program) (Q : APost) (a : AFr) (σ : ASt) : c6_67.wp P Q a σ = ACode.wp P (.block 4 c6_66) Q a σ := id rfl
@[go_sem] theorem c6_68_wp (P : Program) (Q : APost) (a : AFr) (σ : ASt) : c6_68.wp P Q a σ = ACode.wp P (.seq c6_47 c6_67) Q a σ := id rfl
@[go_sem] theorem c6_69_wp (P : Program) (Q : APost) (a : AFr) (σ : ASt) : c6_69.wp P Q a σ = ACode.wp P (.ops [
    ⟨(some 6), none, .q (.mv (.v (.bool true))), []⟩]) Q a σ := id rfl
@[go_sem] theorem c6_70_wp (P : Program) (Q : APost) (a : AFr) (σ : ASt) : c6_70.wp P Q a σ = ACode.wp P (.seq c6_69 .ret) Q a σ := id rfl
@[go_sem] theorem c6_71_wp (P : Program) (Q : APost) (a : AFr) (σ : ASt) : c6_71.wp P Q a σ = ACode.wp P (.seq c6_68 c6_70) Q a σ := id rfl
@[go_sem] theorem c6_72_wp (P : Program) (Q : APost) (a : AFr) (σ : ASt) : c6_72.wp P Q a σ = ACode.wp P (.seq c6_46 c6_71) Q a σ := id rfl
@[go_sem] theorem c6_73_wp (P : Program) (Q : APost) (a : AFr) (σ : ASt) : c6_73.wp P Q a σ = ACode.wp P (.seq c6_32 c6_72) Q a σ := id rfl
@[go_sem] theorem c6_74_wp (P : Program) (Q : APost) (a : AFr) (σ : ASt) : c6_74.wp P Q a σ = ACode.wp P (.seq c6_31 c6_73) Q a σ := id rfl
@[go_sem] theorem c6_75_wp (P : Program) (Q : APost) (a : AFr) (σ : ASt) : c6_75.wp P Q a σ = ACode.wp P (.seq c6_26 c6_74) Q a σ := id rfl
@[go_sem] theorem c6_76_wp (P : Program) (Q : APost) (a : AFr) (σ : ASt) : c6_76.wp P Q a σ = ACode.wp P (.seq c6_25 c6_75) Q a σ := id rfl
@[go_sem] theorem c6_77_wp (P : Program) (Q : APost) (a : AFr) (σ : ASt) : c6_77.wp P Q a σ = ACode.wp P (.seq c6_20 c6_76) Q a σ := id rfl
@[go_sem] theorem c6_78_wp (P : Program) (Q : APost) (a : AFr) (σ : ASt) : c6_78.wp P Q a σ = ACode.wp P (.seq c6_3 c6_77) Q a σ := id rfl
@[go_sem] theorem c6_79_wp (P : Program) (Q : APost) (a : AFr) (σ : ASt) : c6_79.wp P Q a σ = ACode.wp P (.seq c6_2 c6_78) Q a σ := id rfl
@[go_sem] theorem c6_80_wp (P : Program) (Q : APost) (a : AFr) (σ : ASt) : c6_80.wp P Q a σ = ACode.wp P (.seq c6_1 c6_79) Q a σ := id rfl
@[go_sem] theorem c6_81_wp (P : Program) (Q : APost) (a : AFr) (σ : ASt) : c6_81.wp P Q a σ = ACode.wp P (.seq c6_0 c6_80) Q a σ := id rfl
def c6 : AFn := ⟨157, [.t 6], c6_81⟩
set_option maxRecDepth 100000 in
theorem c6_ok : compF Try.prog Try.f6 = some c6 := by kernel_rfl
theorem a6 {args : List AV} {σ : ASt} {R : AV → ASt → Prop} (hl : args.length ≤ 157) (h : c6_81.wp Try.prog (RetQ [.t 6] R) (init args) σ) : ACalls Try.prog 6 args σ R := acalls_of Try.func6 c6_ok hl h

/-! 7: tabular/tabularlaw02.VintOne -/
def c7_0 : ACode := .ops [
    ⟨(some 2), none, .q (.mv (.v (.bool false))), []⟩]
def c7_1 : ACode := .ops [
    ⟨(some 9), none, .q (.mv (.t 0)), []⟩,
    ⟨(some 10), none, .e (.call 13 [(.t 9), (.v (.int .i64 100))]), []⟩,
    ⟨(some 0), none, .q (.mv (.t 10)), []⟩]
def c7_2 : ACode := .ops [
    ⟨(some 11), none, .q (.mv (.t 0)), []⟩,
    ⟨(some 12), none, .e (.call 27 [(.t 11)]), []⟩,
    ⟨(some 3), none, .q (.mv (.t 12)), []⟩]
def c7_3 : ACode := .ops [
    ⟨(some 13), none, .q (.mv (.t 3)), []⟩,
    ⟨(some 14), none, .e (.call 28 [(.t 13)]), []⟩,
    ⟨(some 4), none, .q (.mv (.t 14)), []⟩]
def c7_4 : ACode := .ops [
    ⟨(some 15), none, .q (.mv (.t 3)), []⟩,
    ⟨(some 16), none, .e (.call 29 [(.t 15)]), []⟩,
    ⟨(some 17), none, .q (.bin .eql (.t 16) (.v (.int .i64 0))), []⟩,
    ⟨(some 18), none, .q (.mv (.t 17)), []⟩,
    ⟨(some 19), (some (18, true)), .q (.mv (.t 0)), []⟩,
    ⟨(some 20), (some (18, true)), .q (.mv (.t 4)), []⟩,
    ⟨(some 21), (some (18, true)), .e (.call 30 [(.t 20)]), []⟩,
    ⟨(some 22), (some (18, true)), .q (.bin .neq (.t 19) (.t 21)), []⟩,
    ⟨(some 23), none, .q (.pick (.t 18) (.t 22) (.v (.bool false))), []⟩]
def c7_5 : ACode := .ops [
    ⟨(some 2), none, .q (.mv (.v (.bool false))), []⟩]
def c7_6 : ACode := .seq c7_5 .ret
def c7_7 : ACode := .cond (.t 23) c7_6 .skip
def c7_8 : ACode := .seq c7_4 c7_7
def c7_9 : ACode := .ops [
    ⟨(some 24), none, .q (.mv (.t 0)), []⟩,
    ⟨(some 25), none, .e (.call 27 [(.t 24)]), []⟩,
    ⟨(some 5), none, .q (.mv (.t 25)), []⟩]
def c7_10 : ACode := .ops [
    ⟨(some 26), none, .q (.mv (.t 5)), []⟩,
    ⟨(some 27), none, .e (.call 31 [(.t 26), (.v (.int .i64 100))]), []⟩,
    ⟨(some 6), none, .q (.mv (.t 27)), []⟩]
def c7_11 : ACode := .ops [
    ⟨(some 28), none, .q (.mv (.t 5)), []⟩,
    ⟨(some 29), none, .e (.call 29 [(.t 28)]), []⟩,
    ⟨(some 30), none, .q (.bin .eql (.t 29) (.v (.int .i64 0))), []⟩,
    ⟨(some 31), none, .q (.mv (.t 30)), []⟩,
    ⟨(some 32), (some (31, true)), .q (.mv (.t 0)), []⟩,
    ⟨(some 33), (some (31, true)), .q (.mv (.t 6)), []⟩,
    ⟨(some 34), (some (31, true)), .e (.call 32 [(.t 33)]), []⟩,
    ⟨(some 35), (some (31, true)), .q (.bin .neq (.t 32) (.t 34)), []⟩,
    ⟨(some 36), none, .q (.pick (.t 31) (.t 35) (.v (.bool false))), []⟩]
def c7_12 : ACode := .ops [
    ⟨(some 2), none, .q (.mv (.v (.bool false))), []⟩]
def c7_13 : ACode := .seq c7_12 .ret
def c7_14 : ACode := .cond (.t 36) c7_13 .skip
def c7_15 : ACode := .seq c7_11 c7_14
def c7_16 : ACode := .ops [
    ⟨(some 37), none, .q (.mv (.t 0)), []⟩,
    ⟨(some 38), none, .e (.call 27 [(.t 37)]), []⟩,
    ⟨(some 7), none, .q (.mv (.t 38)), []⟩]
def c7_17 : ACode := .ops [
    ⟨(some 39), none, .q (.mv (.t 7)), []⟩,
    ⟨(some 40), none, .e (.call 33 [(.t 39), (.v (.int .i64 100))]), []⟩,
    ⟨(some 8), none, .q (.mv (.t 40)), []⟩]
def c7_18 : ACode := .ops [
    ⟨(some 41), none, .e (.call 11 []), []⟩,
    ⟨(some 42), none, .q (.mv (.t 41)), []⟩,
    ⟨(some 43), (some (42, true)), .q (.mv (.t 7)), []⟩,
    ⟨(some 44), (some (42, true)), .e (.call 29 [(.t 43)]), []⟩,
    ⟨(some 45), (some (42, true)), .q (.bin .neq (.t 44) (.v (.int .i64 0))), []⟩,
    ⟨(some 46), (some (42, true)), .q (.mv (.t 45)), []⟩,
    ⟨(some 47), (some (46, false)), .q (.mv (.t 0)), []⟩,
    ⟨(some 48), (some (46, false)), .q (.mv (.t 8)), []⟩,
    ⟨(some 49), (some (46, false)), .e (.call 21 [(.t 48)]), []⟩,
    ⟨(some 50), (some (46, false)), .e (.call 34 [(.t 49)]), []⟩,
    ⟨(some 51), (some (46, false)), .q (.bin .eql (.t 47) (.t 50)), []⟩,
    ⟨(some 52), (some (42, true)), .q (.pick (.t 46) (.v (.bool true)) (.t 51)), []⟩,
    ⟨(some 53), none, .q (.pick (.t 42) (.t 52) (.v (.bool false))), []⟩,
    ⟨(some 2), none, .q (.mv (.t 53)), []⟩]
def c7_19 : ACode := .seq c7_18 .ret
def c7_20 : ACode := .seq c7_17 c7_19
def c7_21 : ACode := .seq c7_16 c7_20
def c7_22 : ACode := .seq c7_15 c7_21
def c7_23 : ACode := .seq c7_10 c7_22
def c7_24 : ACode := .seq c7_9 c7_23
def c7_25 : ACode := .seq c7_8 c7_24
def c7_26 : ACode := .seq c7_3 c7_25
def c7_27 : ACode := .seq c7_2 c7_26
def c7_28 : ACode := .seq c7_1 c7_27
def c7_29 : ACode := .seq c7_0 c7_28
@[go_sem] theorem c7_0_wp (P : Program) (Q : APost) (a : AFr) (σ : ASt) : c7_0.wp P Q a σ = ACode.wp P (.ops [
    ⟨(some 2), none, .q (.mv (.v (.bool false))), []⟩]) Q a σ := id rfl
@[go_sem] theorem c7_1_wp (P : Program) (Q : APost) (a : AFr) (σ : ASt) : c7_1.wp P Q a σ = ACode.wp P (.ops [
    ⟨(some 9), none, .q (.mv (.t 0)), []⟩,
    ⟨(some 10), none, .e (.call 13 [(.t 9), (.v (.int .i64 100))]), []⟩,
    ⟨(some 0), none, .q (.mv (.t 10)), []⟩]) Q a σ := id rfl
@[go_sem] theorem c7_2_wp (P : Program) (Q : APost) (a : AFr) (σ : ASt) : c7_2.wp P Q a σ = ACode.wp P (.ops [
    ⟨(some 11), none, .q (.mv (.t 0)), []⟩,
    ⟨(some 12), none, .e (.call 27 [(.t 11)]), []⟩,
    ⟨(some 3), none, .q (.mv (.t 12)), []⟩]) Q a σ := id rfl
@[go_sem] theorem c7_3_wp (P : Program) (Q : APost) (a : AFr) (σ : ASt) : c7_3.wp P Q a σ = ACode.wp P (.ops [
    ⟨(some 13), none, .q (.mv (.t 3)), []⟩,
    ⟨(some 14), none, .e (.call 28 [(.t 13)]), []⟩,
    ⟨(some 4), none, .q (.mv (.t 14)), []⟩]) Q a σ := id rfl
@[go_sem] theorem c7_4_wp (P : Program) (Q : APost) (a : AFr) (σ : ASt) : c7_4.wp P Q a σ = ACode.wp P (.ops [
    ⟨(some 15), none, .q (.mv (.t 3)), []⟩,
    ⟨(some 16), none, .e (.call 29 [(.t 15)]), []⟩,
    ⟨(some 17), none, .q (.bin .eql (.t 16) (.v (.int .i64 0))), []⟩,
    ⟨(some 18), none, .q (.mv (.t 17)), []⟩,
    ⟨(some 19), (some (18, true)), .q (.mv (.t 0)), []⟩,
    ⟨(some 20), (some (18, true)), .q (.mv (.t 4)), []⟩,
    ⟨(some 21), (some (18, true)), .e (.call 30 [(.t 20)]), []⟩,
    ⟨(some 22), (some (18, true)), .q (.bin .neq (.t 19) (.t 21)), []⟩,
    ⟨(some 23), none, .q (.pick (.t 18) (.t 22) (.v (.bool false))), []⟩]) Q a σ := id rfl
@[go_sem] theorem c7_5_wp (P : Program) (Q : APost) (a : AFr) (σ : ASt) : c7_5.wp P Q a σ = ACode.wp P (.ops [
    ⟨(some 2), none, .q (.mv (.v (.bool false))), []⟩]) Q a σ := id rfl
@[go_sem] theorem c7_6_wp (P : Program) (Q : APost) (a : AFr) (σ : ASt) : c7_6.wp P Q a σ = ACode.wp P (.seq c7_5 .ret) Q a σ := id rfl
@[go_sem] theorem c7_7_wp (P : Program) (Q : APost) (a : AFr) (σ : ASt) : c7_7.wp P Q a σ = ACode.wp P (.cond (.t 23) c7_6 .skip) Q a σ := id rfl
@[go_sem] theorem c7_8_wp (P : Program) (Q : APost) (a : AFr) (σ : ASt) : c7_8.wp P Q a σ = ACode.wp P (.seq c7_4 c7_7) Q a σ := id rfl
@[go_sem] theorem c7_9_wp (P : Program) (Q : APost) (a : AFr) (σ : ASt) : c7_9.wp P Q a σ = ACode.wp P (.ops [
    ⟨(some 24), none, .q (.mv (.t 0)), []⟩,
    ⟨(some 25), none, .e (.call 27 [(.t 24)]), []⟩,
    ⟨(some 5), none, .q (.mv (.t 25)), []⟩]) Q a σ := id rfl
@[go_sem] theorem c7_10_wp (P : Program) (Q : APost) (a : AFr) (σ : ASt) : c7_10.wp P Q a σ = ACode.wp P (.ops [
    ⟨(some 26), none, .q (.mv (.t 5)), []⟩,
    ⟨(some 27), none, .e (.call 31 [(.t 26), (.v (.int .i64 100))]), []⟩,
    ⟨(some 6), none, .q (.mv (.t 27)), []⟩]) Q a σ := id rfl
@[go_sem] theorem c7_11_wp (P : Program) (Q : APost) (a : AFr) (σ : ASt) : c7_11.wp P Q a σ = ACode.wp P (.ops [
    ⟨(some 28), none, .q (.mv (.t 5)), []⟩,
    ⟨(some 29), none, .e (.call 29 [(.t 28)]), []⟩,
    ⟨(some 30), none, .q (.bin .eql (.t 29) (.v (.int .i64 0))), []⟩,
    ⟨(some 31), none, .q (.mv (.t 30)), []⟩,
    ⟨(some 32), (some (31, true)), .q (.mv (.t 0)), []⟩,
    ⟨(some 33), (some (31, true)), .q (.mv (.t 6)), []⟩,
    ⟨(some 34), (some (31, true)), .e (.call 32 [(.t 33)]), []⟩,
    ⟨(some 35), (some (31, true)), .q (.bin .neq (.t 32) (.t 34)), []⟩,
    ⟨(some 36), none, .q (.pick (.t 31) (.t 35) (.v (.bool false))), []⟩]) Q a σ := id rfl
@[go_sem] theorem c7_12_wp (P : Program) (Q : APost) (a : AFr) (σ : ASt) : c7_12.wp P Q a σ = ACode.wp P (.ops [
    ⟨(some 2), none, .q (.mv (.v (.bool false))), []⟩]) Q a σ := id rfl
@[go_sem] theorem c7_13_wp (P : Program) (Q : APost) (a : AFr) (σ : ASt) : c7_13.wp P Q a σ = ACode.wp P (.seq c7_12 .ret) Q a σ := id rfl
@[go_sem] theorem c7_14_wp (P : Program) (Q : APost) (a : AFr) (σ : ASt) : c7_14.wp P Q a σ = ACode.wp P (.cond (.t 36) c7_13 .skip) Q a σ := id rfl
@[go_sem] theorem c7_15_wp (P : Program) (Q : APost) (a : AFr) (σ : ASt) : c7_15.wp P Q a σ = ACode.wp P (.seq c7_11 c7_14) Q a σ := id rfl
@[go_sem] theorem c7_16_wp (P : Program) (Q : APost) (a : AFr) (σ : ASt) : c7_16.wp P Q a σ = ACode.wp P (.ops [
    ⟨(some 37), none, .q (.mv (.t 0)), []⟩,
    ⟨(some 38), none, .e (.call 27 [(.t 37)]), []⟩,
    ⟨(some 7), none, .q (.mv (.t 38)), []⟩]) Q a σ := id rfl
@[go_sem] theorem c7_17_wp (P : Program) (Q : APost) (a : AFr) (σ : ASt) : c7_17.wp P Q a σ = ACode.wp P (.ops [
    ⟨(some 39), none, .q (.mv (.t 7)), []⟩,
    ⟨(some 40), none, .e (.call 33 [(.t 39), (.v (.int .i64 100))]), []⟩,
    ⟨(some 8), none, .q (.mv (.t 40)), []⟩]) Q a σ := id rfl
@[go_sem] theorem c7_18_wp (P : Program) (Q : APost) (a : AFr) (σ : ASt) : c7_18.wp P Q a σ = ACode.wp P (.ops [
    ⟨(some 41), none, .e (.call 11 []), []⟩,
    ⟨(some 42), none, .q (.mv (.t 41)), []⟩,
    ⟨(some 43), (some (42, true)), .q (.mv (.t 7)), []⟩,
    ⟨(some 44), (some (42, true)), .e (.call 29 [(.t 43)]), []⟩,
    ⟨(some 45), (some (42, true)), .q (.bin .neq (.t 44) (.v (.int .i64 0))), []⟩,
    ⟨(some 46), (some (42, true)), .q (.mv (.t 45)), []⟩,
    ⟨(some 47), (some (46, false)), .q (.mv (.t 0)), []⟩,
    ⟨(some 48), (some (46, false)), .q (.mv (.t 8)), []⟩,
    ⟨(some 49), (some (46, false)), .e (.call 21 [(.t 48)]), []⟩,
    ⟨(some 50), (some (46, false)), .e (.call 34 [(.t 49)]), []⟩,
    ⟨(some 51), (some (46, false)), .q (.bin .eql (.t 47) (.t 50)), []⟩,
    ⟨(some 52), (some (42, true)), .q (.pick (.t 46) (.v (.bool true)) (.t 51)), []⟩,
    ⟨(some 53), none, .q (.pick (.t 42) (.t 52) (.v (.bool false))), []⟩,
    ⟨(some 2), none, .q (.mv (.t 53)), []⟩]) Q a σ := id rfl
@[go_sem] theorem c7_19_wp (P : Program) (Q : APost) (a : AFr) (σ : ASt) : c7_19.wp P Q a σ = ACode.wp P (.seq c7_18 .ret) Q a σ := id rfl
@[go_sem] theorem c7_20_wp (P : Program) (Q : APost) (a : AFr) (σ : ASt) : c7_20.wp P Q a σ = ACode.wp P (.seq c7_17 c7_19) Q a σ := id rfl
@[go_sem] theorem c7_21_wp (P : Program) (Q : APost) (a : AFr) (σ : ASt) : c7_21.wp P Q a σ = ACode.wp P (.seq c7_16 c7_20) Q a σ := id rfl
@[go_sem] theorem c7_22_wp (P : Program) (Q : APost) (a : AFr) (σ : ASt) : c7_22.wp P Q a σ = ACode.wp P (.seq c7_15 c7_21) Q a σ := id rfl
@[go_sem] theorem c7_23_wp (P : Program) (Q : APost) (a : AFr) (σ : ASt) : c7_23.wp P Q a σ = ACode.wp P (.seq c7_10 c7_22) Q a σ := id rfl
@[go_sem] theorem c7_24_wp (P : Program) (Q : APost) (a : AFr) (σ : ASt) : c7_24.wp P Q a σ = ACode.wp P (.seq c7_9 c7_23) Q a σ := id rfl
@[go_sem] theorem c7_25_wp (P : Program) (Q : APost) (a : AFr) (σ : ASt) : c7_25.wp P Q a σ = ACode.wp P (.seq c7_8 c7_24) Q a σ := id rfl
@[go_sem] theorem c7_26_wp (P : Program) (Q : APost) (a : AFr) (σ : ASt) : c7_26.wp P Q a σ = ACode.wp P (.seq c7_3 c7_25) Q a σ := id rfl
@[go_sem] theorem c7_27_wp (P : Program) (Q : APost) (a : AFr) (σ : ASt) : c7_27.wp P Q a σ = ACode.wp P (.seq c7_2 c7_26) Q a σ := id rfl
@[go_sem] theorem c7_28_wp (P : Program) (Q : APost) (a : AFr) (σ : ASt) : c7_28.wp P Q a σ = ACode.wp P (.seq c7_1 c7_27) Q a σ := id rfl
@[go_sem] theorem c7_29_wp (P : Program) (Q : APost) (a : AFr) (σ : ASt) : c7_29.wp P Q a σ = ACode.wp P (.seq c7_0 c7_28) Q a σ := id rfl
def c7 : AFn := ⟨54, [.t 2], c7_29⟩
set_option maxRecDepth 100000 in
theorem c7_ok : compF Try.prog Try.f7 = some c7 := by kernel_rfl
theorem a7 {args : List AV} {σ : ASt} {R : AV → ASt → Prop} (hl : args.length ≤ 54) (h : c7_29.wp Try.prog (RetQ [.t 2] R) (init args) σ) : ACalls Try.prog 7 args σ R := acalls_of Try.func7 c7_ok hl h

/-! 8: tabular/tabularlaw02.VintCut -/
def c8_0 : ACode := .ops [
    ⟨(some 2), none, .e (.box (.t 0)), []⟩,
    ⟨(some 4), none, .q (.mv (.v (.bool false))), []⟩]
def c8_1 : ACode := .ops [
    ⟨(some 5), none, .e (.alloc [(.sl .full [])]), []⟩]
def c8_2 : ACode := .ops [
    ⟨(some 8), none, .q (.ld (some 5) (.t 2)), []⟩,
    ⟨(some 9), none, .e (.call 10 [(.t 5), (.t 8)]), []⟩]
def c8_3 : ACode := .ops [
    ⟨(some 10), none, .e (.call 12 [(.t 5)]), []⟩,
    ⟨(some 6), none, .q (.mv (.t 10)), []⟩]
def c8_4 : ACode := .ops [
    ⟨(some 11), none, .q (.fa 0 (.t 2)), []⟩,
    ⟨(some 12), none, .q (.ld none (.t 11)), []⟩,
    ⟨(some 13), none, .q (.bin .lss (.t 12) (.v (.int .i64 1))), []⟩,
    ⟨(some 14), none, .q (.mv (.t 13)), []⟩,
    ⟨(some 15), (some (14, false)), .q (.fa 0 (.t 2)), []⟩,
    ⟨(some 16), (some (14, false)), .q (.ld none (.t 15)), []⟩,
    ⟨(some 17), (some (14, false)), .q (.bin .gtr (.t 16) (.v (.int .i64 4))), []⟩,
    ⟨(some 18), none, .q (.pick (.t 14) (.v (.bool true)) (.t 17)), []⟩,
    ⟨(some 19), none, .q (.mv (.t 18)), []⟩,
    ⟨(some 20), (some (19, false)), .q (.mv (.t 1)), []⟩,
    ⟨(some 21), (some (19, false)), .q (.bin .lss (.t 20) (.v (.int .i64 0))), []⟩,
    ⟨(some 22), none, .q (.pick (.t 19) (.v (.bool true)) (.t 21)), []⟩,
    ⟨(some 23), none, .q (.mv (.t 22)), []⟩,
    ⟨(some 24), (some (23, false)), .q (.mv (.t 1)), []⟩,
    ⟨(some 25), (some (23, false)), .q (.mv (.t 6)), []⟩,
    ⟨(some 26), (some (23, false)), .q (.lenS (.t 25)), []⟩,
    ⟨(some 27), (some (23, false)), .q (.bin .geq (.t 24) (.t 26)), []⟩,
    ⟨(some 28), none, .q (.pick (.t 23) (.v (.bool true)) (.t 27)), []⟩]
def c8_5 : ACode := .ops [
    ⟨(some 29), none, .e (.call 11 []), []⟩,
    ⟨(some 4), none, .q (.mv (.t 29)), []⟩]
def c8_6 : ACode := .seq c8_5 .ret
def c8_7 : ACode := .cond (.t 28) c8_6 .skip
def c8_8 : ACode := .seq c8_4 c8_7
def c8_9 : ACode := .ops [
    ⟨(some 30), none, .q (.mv (.t 6)), []⟩,
    ⟨(some 31), none, .q (.mv (.t 1)), []⟩,
    ⟨(some 32), none, .q (.slto (true, 0) (.t 30) (.t 31)), []⟩,
    ⟨(some 33), none, .e (.call 27 [(.t 32)]), []⟩,
    ⟨(some 7), none, .q (.mv (.t 33)), []⟩]
def c8_10 : ACode := .ops [
    ⟨(some 34), none, .q (.fa 0 (.t 2)), []⟩,
    ⟨(some 35), none, .q (.ld none (.t 34)), []⟩]
def c8_11 : ACode := .ops [
    ⟨(some 37), none, .q (.bin .eql (.t 35) (.v (.int .i64 1))), []⟩,
    ⟨(some 36), none, .q (.mv (.t 37)), []⟩]
def c8_12 : ACode := .ops [
    ⟨(some 38), none, .q (.mv (.t 7)), []⟩,
    ⟨(some 39), none, .e (.call 28 [(.t 38)]), []⟩]
def c8_13 : ACode := .ops [
    ⟨(some 41), none, .q (.bin .eql (.t 35) (.v (.int .i64 2))), []⟩,
    ⟨(some 40), none, .q (.mv (.t 41)), []⟩]
def c8_14 : ACode := .ops [
    ⟨(some 42), none, .q (.mv (.t 7)), []⟩,
    ⟨(some 43), none, .e (.call 35 [(.t 42)]), []⟩]
def c8_15 : ACode := .ops [
    ⟨(some 45), none, .q (.bin .eql (.t 35) (.v (.int .i64 3))), []⟩,
    ⟨(some 44), none, .q (.mv (.t 45)), []⟩]
def c8_16 : ACode := .ops [
    ⟨(some 46), none, .q (.mv (.t 7)), []⟩,
    ⟨(some 47), none, .e (.call 36 [(.t 46), (.v (.int .i64 200))]), []⟩]
def c8_17 : ACode := .ops [
    ⟨(some 49), none, .q (.bin .eql (.t 35) (.v (.int .i64 4))), []⟩,
    ⟨(some 48), none, .q (.mv (.t 49)), []⟩]
def c8_18 : ACode := .ops [
    ⟨(some 50), none, .q (.mv (.t 7)), []⟩,
    ⟨(some 51), none, .e (.call 31 [(.t 50), (.v (.int .i64 20))]), []⟩]
def c8_19 : ACode := .cond (.t 48) c8_18 .skip
def c8_20 : ACode := .seq c8_17 c8_19
def c8_21 : ACode := .cond (.t 44) c8_16 c8_20
def c8_22 : ACode := .seq c8_15 c8_21
def c8_23 : ACode := .cond (.t 40) c8_14 c8_22
def c8_24 : ACode := .seq c8_13 c8_23
def c8_25 : ACode := .cond (.t 36) c8_12 c8_24
def c8_26 : ACode := .seq c8_11 c8_25
def c8_27 : ACode := .block 0 c8_26
def c8_28 : ACode := .seq c8_10 c8_27
def c8_29 : ACode := .ops [
    ⟨(some 52), none, .e (.call 11 []), []⟩,
    ⟨(some 53), none, .q (.mv (.t 52)), []⟩,
    ⟨(some 54), (some (53, true)), .q (.mv (.t 7)), []⟩,
    ⟨(some 55), (some (53, true)), .e (.call 37 [(.t 54)]), []⟩,
    ⟨(some 56), (some (53, true)), .q (.bin .eql (.t 55) (.v (.int .i64 2))), []⟩,
    ⟨(some 57), none, .q (.pick (.t 53) (.t 56) (.v (.bool false))), []⟩,
    ⟨(some 58), none, .q (.mv (.t 57)), []⟩,
    ⟨(some 59), (some (58, true)), .q (.mv (.t 7)), []⟩,
    ⟨(some 60), (some (58, true)), .e (.call 29 [(.t 59)]), []⟩,
    ⟨(some 61), (some (58, true)), .q (.bin .eql (.t 60) (.v (.int .i64 2))), []⟩,
    ⟨(some 62), none, .q (.pick (.t 58) (.t 61) (.v (.bool false))), []⟩,
    ⟨(some 4), none, .q (.mv (.t 62)), []⟩]
def c8_30 : ACode := .seq c8_29 .ret
def c8_31 : ACode := .seq c8_28 c8_30
def c8_32 : ACode := .seq c8_9 c8_31
def c8_33 : ACode := .seq c8_8 c8_32
def c8_34 : ACode := .seq c8_3 c8_33
def c8_35 : ACode := .seq c8_2 c8_34
def c8_36 : ACode := .seq c8_1 c8_35
def c8_37 : ACode := .seq c8_0 c8_36
@[go_sem] theorem c8_0_wp (P : Program) (Q : APost) (a : AFr) (σ : ASt) : c8_0.wp P Q a σ = ACode.wp P (.ops [
    ⟨(some 2), none, .e (.box (.t 0)), []⟩,
    ⟨(some 4), none, .q (.mv (.v (.bool false))), []⟩]) Q a σ := id rfl
@[go_sem] theorem c8_1_wp (P : Program) (Q : APost) (a : AFr) (σ : ASt) : c8_1.wp P Q a σ = ACode.wp P (.ops [
    ⟨(some 5), none, .e (.alloc [(.sl .full [])]), []⟩]) Q a σ := id rfl
@[go_sem] theorem c8_2_wp (P : Program) (Q : APost) (a : AFr) (σ : ASt) : c8_2.wp P Q a σ = ACode.wp P (.ops [
    ⟨(some 8), none, .q (.ld (some 5) (.t 2)), []⟩,
    ⟨(some 9), none, .e (.call 10 [(.t 5), (.t 8)]), []⟩]) Q a σ := id rfl
@[go_sem] theorem c8_3_wp (P : Program) (Q : APost) (a : AFr) (σ : ASt) : c8_3.wp P Q a σ = ACode.wp P (.ops [
    ⟨(some 10), none, .e (.call 12 [(.t 5)]), []⟩,
    ⟨(some 6), none, .q (.mv (.t 10)), []⟩]) Q a σ := id rfl
@[go_sem] theorem c8_4_wp (P : Program) (Q : APost) (a : AFr) (σ : ASt) : c8_4.wp P Q a σ = ACode.wp P (.ops [
    ⟨(some 11), none, .q (.fa 0 (.t 2)), []⟩,
    ⟨(some 12), none, .q (.ld none (.t 11)), []⟩,
    ⟨(some 13), none, .q (.bin .lss (.t 12) (.v (.int .i64 1))), []⟩,
    ⟨(some 14), none, .q (.mv (.t 13)), []⟩,
    ⟨(some 15), (some (14, false)), .q (.fa 0 (.t 2)), []⟩,
    ⟨(some 16), (some (14, false)), .q (.ld none (.t 15)), []⟩,
    ⟨(some 17), (some (14, false)), .q (.bin .gtr (.t 16) (.v (.int .i64 4))), []⟩,
    ⟨(some 18), none, .q (.pick (.t 14) (.v (.bool true)) (.t 17)), []⟩,
    ⟨(some 19), none, .q (.mv (.t 18)), []⟩,
    ⟨(some 20), (some (19, false)), .q (.mv (.t 1)), []⟩,
    ⟨(some 21), (some (19, false)), .q (.bin .lss (.t 20) (.v (.int .i64 0))), []⟩,
    ⟨(some 22), none, .q (.pick (.t 19) (.v (.bool true)) (.t 21)), []⟩,
    ⟨(some 23), none, .q (.mv (.t 22)), []⟩,
    ⟨(some 24), (some (23, false)), .q (.mv (.t 1)), []⟩,
    ⟨(some 25), (some (23, false)), .q (.mv (.t 6)), []⟩,
    ⟨(some 26), (some (23, false)), .q (.lenS (.t 25)), []⟩,
    ⟨(some 27), (some (23, false)), .q (.bin .geq (.t 24) (.t 26)), []⟩,
    ⟨(some 28), none, .q (.pick (.t 23) (.v (.bool true)) (.t 27)), []⟩]) Q a σ := id rfl
@[go_sem] theorem c8_5_wp (P : Program) (Q : APost) (a : AFr) (σ : ASt) : c8_5.wp P Q a σ = ACode.wp P (.ops [
    ⟨(some 29), none, .e (.call 11 []), []⟩,
    ⟨(some 4), none, .q (.mv (.t 29)), []⟩]) Q a σ := id rfl
@[go_sem] theorem c8_6_wp (P : Program) (Q : APost) (a : AFr) (σ : ASt) : c8_6.wp P Q a σ = ACode.wp P (.seq c8_5 .ret) Q a σ := id rfl
@[go_sem] theorem c8_7_wp (P : Program) (Q : APost) (a : AFr) (σ : ASt) : c8_7.wp P Q a σ = ACode.wp P (.cond (.t 28) c8_6 .skip) Q a σ := id rfl
@[go_sem] theorem c8_8_wp (P : Program) (Q : APost) (a : AFr) (σ : ASt) : c8_8.wp P Q a σ = ACode.wp P (.seq c8_4 c8_7) Q a σ := id rfl
@[go_sem] theorem c8_9_wp (P : Program) (Q : APost) (a : AFr) (σ : ASt) : c8_9.wp P Q a σ = ACode.wp P (.ops [
    ⟨(some 30), none, .q (.mv (.t 6)), []⟩,
    ⟨(some 31), none, .q (.mv (.t 1)), []⟩,
    ⟨(some 32), none, .q (.slto (true, 0) (.t 30) (.t 31)), []⟩,
    ⟨(some 33), none, .e (.call 27 [(.t 32)]), []⟩,
    ⟨(some 7), none, .q (.mv (.t 33)), []⟩]) Q a σ := id rfl
@[go_sem] theorem c8_10_wp (P : Program) (Q : APost) (a : AFr) (σ : ASt) : c8_10.wp P Q a σ = ACode.wp P (.ops [
    ⟨(some 34), none, .q (.fa 0 (.t 2)), []⟩,
    ⟨(some 35), none, .q (.ld none (.t 34)), []⟩]) Q a σ := id rfl
@[go_sem] theorem c8_11_wp (P : Program) (Q : APost) (a : AFr) (σ : ASt) : c8_11.wp P Q a σ = ACode.wp P (.ops [
    ⟨(some 37), none, .q (.bin .eql (.t 35) (.v (.int .i64 1))), []⟩,
    ⟨(some 36), none, .q (.mv (.t 37)), []⟩]) Q a σ := id rfl
@[go_sem] theorem c8_12_wp (P : Program) (Q : APost) (a : AFr) (σ : ASt) : c8_12.wp P Q a σ = ACode.wp P (.ops [
    ⟨(some 38), none, .q (.mv (.t 7)), []⟩,
    ⟨(some 39), none, .e (.call 28 [(.t 38)]), []⟩]) Q a σ := id rfl
@[go_sem] theorem c8_13_wp (P : Program) (Q : APost) (a : AFr) (σ : ASt) : c8_13.wp P Q a σ = ACode.wp P (.ops [
    ⟨(some 41), none, .q (.bin .eql (.t 35) (.v (.int .i64 2))), []⟩,
    ⟨(some 40), none, .q (.mv (.t 41)), []⟩]) Q a σ := id rfl
@[go_sem] theorem c8_14_wp (P : Program) (Q : APost) (a : AFr) (σ : ASt) : c8_14.wp P Q a σ = ACode.wp P (.ops [
    ⟨(some 42), none, .q (.mv (.t 7)), []⟩,
    ⟨(some 43), none, .e (.call 35 [(.t 42)]), []⟩]) Q a σ := id rfl
@[go_sem] theorem c8_15_wp (P : Program) (Q : APost) (a : AFr) (σ : ASt) : c8_15.wp P Q a σ = ACode.wp P (.ops [
    ⟨(some 45), none, .q (.bin .eql (.t 35) (.v (.int .i64 3))), []⟩,
    ⟨(some 44), none, .q (.mv (.t 45)), []⟩]) Q a σ := id rfl
@[go_sem] theorem c8_16_wp (P : Program) (Q : APost) (a : AFr) (σ : ASt) : c8_16.wp P Q a σ = ACode.wp P (.ops [
    ⟨(some 46), none, .q (.mv (.t 7)), []⟩,
    ⟨(some 47), none, .e (.call 36 [(.t 46), (.v (.int .i64 200))]), []⟩]) Q a σ := id rfl
@[go_sem] theorem c8_17_wp (P : Program) (Q : APost) (a : AFr) (σ : ASt) : c8_17.wp P Q a σ = ACode.wp P (.ops [
    ⟨(some 49), none, .q (.bin .eql (.t 35) (.v (.int .i64 4))), []⟩,
    ⟨(some 48), none, .q (.mv (.t 49)), []⟩]) Q a σ := id rfl
@[go_sem] theorem c8_18_wp (P : Program) (Q : APost) (a : AFr) (σ : ASt) : c8_18.wp P Q a σ = ACode.wp P (.ops [
    ⟨(some 50), none, .q (.mv (.t 7)), []⟩,
    ⟨(some 51), none, .e (.call 31 [(.t 50), (.v (.int .i64 20))]), []⟩]) Q a σ := id rfl
@[go_sem] theorem c8_19_wp (P : Program) (Q : APost) (a : AFr) (σ : ASt) : c8_19.wp P Q a σ = ACode.wp P (.cond (.t 48) c8_18 .skip) Q a σ := id rfl
@[go_sem] theorem c8_20_wp (P : Program) (Q : APost) (a : AFr) (σ : ASt) : c8_20.wp P Q a σ = ACode.wp P (.seq c8_17 c8_19) Q a σ := id rfl
@[go_sem] theorem c8_21_wp (P : Program) (Q : APost) (a : AFr) (σ : ASt) : c8_21.wp P Q a σ = ACode.wp P (.cond (.t 44) c8_16 c8_20) Q a σ := id rfl
@[go_sem] theorem c8_22_wp (P : Program) (Q : APost) (a : AFr) (σ : ASt) : c8_22.wp P Q a σ = ACode.wp P (.seq c8_15 c8_21) Q a σ := id rfl
@[go_sem] theorem c8_23_wp (P : Program) (Q : APost) (a : AFr) (σ : ASt) : c8_23.wp P Q a σ = ACode.wp P (.cond (.t 40) c8_14 c8_22) Q a σ := id rfl
@[go_sem] theorem c8_24_wp (P : Program) (Q : APost) (a : AFr) (σ : ASt) : c8_24.wp P Q a σ = ACode.wp P (.seq c8_13 c8_23) Q a σ := id rfl
@[go_sem] theorem c8_25_wp (P : Program) (Q : APost) (a : AFr) (σ : ASt) : c8_25.wp P Q a σ = ACode.wp P (.cond (.t 36) c8_12 c8_24) Q a σ := id rfl
@[go_sem] theorem c8_26_wp (P : Program) (Q : APost) (a : AFr) (σ : ASt) : c8_26.wp P Q a σ = ACode.wp P (.seq c8_11 c8_25) Q a σ := id rfl
@[go_sem] theorem c8_27_wp (P : Program) (Q : APost) (a : AFr) (σ : ASt) : c8_27.wp P Q a σ = ACode.wp P (.block 0 c8_26) Q a σ := id rfl
@[go_sem] theorem c8_28_wp (P : Program) (Q : APost) (a : AFr) (σ : ASt) : c8_28.wp P Q a σ = ACode.wp P (.seq c8_10 c8_27) Q a σ := id rfl
@[go_sem] theorem c8_29_wp (P : Program) (Q : APost) (a : AFr) (σ : ASt) : c8_29.wp P Q a σ = ACode.wp P (.ops [
    ⟨(some 52), none, .e (.call 11 []), []⟩,
    ⟨(some 53), none, .q (.mv (.t 52)), []⟩,
    ⟨(some 54), (some (53, true)), .q (.mv (.t 7)), []⟩,
    ⟨(some 55), (some (53, true)), .e (.call 37 [(.t 54)]), []⟩,
    ⟨(some 56), (some (53, true)), .q (.bin .eql (.t 55) (.v (.int .i64 2))), []⟩,
    ⟨(some 57), none, .q (.pick (.t 53) (.t 56) (.v (.bool false))), []⟩,
    ⟨(some 58), none, .q (.mv (.t 57)), []⟩,
    ⟨(some 59), (some (58, true)), .q (.mv (.t 7)), []⟩,
    ⟨(some 60), (some (58, true)), .e (.call 29 [(.t 59)]), []⟩,
    ⟨(some 61), (some (58, true)), .q (.bin .eql (.t 60) (.v (.int .i64 2))), []⟩,
    ⟨(some 62), none, .q (.pick (.t 58) (.t 61) (.v (.bool false))), []⟩,
    ⟨(some 4), none, .q (.mv (.t 62)), []⟩]) Q a σ := id rfl
@[go_sem] theorem c8_30_wp (P : Program) (Q : APost) (a : AFr) (σ : ASt) : c8_30.wp P Q a σ = ACode.wp P (.seq c8_29 .ret) Q a σ := id rfl
@[go_sem] theorem c8_31_wp (P : Program) (Q : APost) (a : AFr) (σ : ASt) : c8_31.wp P Q a σ = ACode.wp P (.seq c8_28 c8_30) Q a σ := id rfl
@[go_sem] theorem c8_32_wp (P : Program) (Q : APost) (a : AFr) (σ : ASt) : c8_32.wp P Q a σ = ACode.wp P (.seq c8_9 c8_31) Q a σ := id rfl
@[go_sem] theorem c8_33_wp (P : Program) (Q : APost) (a : AFr) (σ : ASt) : c8_33.wp P Q a σ = ACode.wp P (.seq c8_8 c8_32) Q a σ := id rfl
@[go_sem] theorem c8_34_wp (P : Program) (Q : APost) (a : AFr) (σ : ASt) : c8_34.wp P Q a σ = ACode.wp P (.seq c8_3 c8_33) Q a σ := id rfl
@[go_sem] theorem c8_35_wp (P : Program) (Q : APost) (a : AFr) (σ : ASt) : c8_35.wp P Q a σ = ACode.wp P (.seq c8_2 c8_34) Q a σ := id rfl
@[go_sem] theorem c8_36_wp (P : Program) (Q : APost) (a : AFr) (σ : ASt) : c8_36.wp P Q a σ = ACode.wp P (.seq c8_1 c8_35) Q a σ := id rfl
@[go_sem] theorem c8_37_wp (P : Program) (Q : APost) (a : AFr) (σ : ASt) : c8_37.wp P Q a σ = ACode.wp P (.seq c8_0 c8_36) Q a σ := id rfl
def c8 : AFn := ⟨63, [.t 4], c8_37⟩
set_option maxRecDepth 100000 in
theorem c8_ok : compF Try.prog Try.f8 = some c8 := by kernel_rfl
theorem a8 {args : List AV} {σ : ASt} {R : AV → ASt → Prop} (hl : args.length ≤ 63) (h : c8_37.wp Try.prog (RetQ [.t 4] R) (init args) σ) : ACalls Try.prog 8 args σ R := acalls_of Try.func8 c8_ok hl h

/-! 9: tabular/tabularlaw02.VintBack -/
def c9_0 : ACode := .ops [
    ⟨(some 2), none, .q (.mv (.v (.bool false))), []⟩]
def c9_1 : ACode := .ops [
    ⟨(some 3), none, .e (.alloc [(.sl .full [])]), []⟩]
def c9_2 : ACode := .ops [
    ⟨(some 4), none, .q (.mv (.v (.int .i64 0))), []⟩]
def c9_3 : ACode := .ops [
    ⟨(some 9), none, .q (.mv (.t 4)), []⟩,
    ⟨(some 10), none, .q (.mv (.t 0)), []⟩,
    ⟨(some 11), none, .q (.len (.t 10)), []⟩,
    ⟨(some 12), none, .q (.bin .lss (.t 9) (.t 11)), []⟩,
    ⟨(some 13), none, .q (.mv (.t 12)), []⟩,
    ⟨(some 14), (some (13, true)), .q (.mv (.t 4)), []⟩,
    ⟨(some 15), (some (13, true)), .q (.bin .lss (.t 14) (.v (.int .i64 20))), []⟩,
    ⟨(some 16), none, .q (.pick (.t 13) (.t 15) (.v (.bool false))), []⟩]
def c9_4 : ACode := .cond (.t 16) .skip (.exit 0)
def c9_5 : ACode := .seq c9_3 c9_4
def c9_6 : ACode := .ops [
    ⟨(some 19), none, .q (.mv (.t 0)), []⟩,
    ⟨(some 20), none, .q (.mv (.t 4)), []⟩,
    ⟨(some 21), none, .q (.ia 5 (.t 19) (.t 20)), []⟩,
    ⟨(some 22), none, .q (.ld (some 5) (.t 21)), []⟩,
    ⟨(some 23), none, .e (.call 10 [(.t 3), (.t 22)]), []⟩]
def c9_7 : ACode := .block 1 c9_6
def c9_8 : ACode := .ops [
    ⟨(some 17), none, .q (.mv (.t 4)), []⟩,
    ⟨(some 18), none, .q (.bin .add (.t 17) (.v (.int .i64 1))), []⟩,
    ⟨(some 4), none, .q (.mv (.t 18)), []⟩]
def c9_9 : ACode := .seq c9_7 c9_8
def c9_10 : ACode := .seq c9_5 c9_9
def c9_11 : ACode := .loop c9_10
def c9_12 : ACode := .block 0 c9_11
def c9_13 : ACode := .seq c9_2 c9_12
def c9_14 : ACode := .ops [
    ⟨(some 24), none, .e (.call 12 [(.t 3)]), []⟩,
    ⟨(some 25), none, .e (.call 27 [(.t 24)]), []⟩,
    ⟨(some 5), none, .q (.mv (.t 25)), []⟩]
def c9_15 : ACode := .ops [
    ⟨(some 6), none, .q (.mv (.v (.int .i64 0))), []⟩]
def c9_16 : ACode := .ops [
    ⟨(some 26), none, .q (.mv (.t 6)), []⟩,
    ⟨(some 27), none, .q (.mv (.t 0)), []⟩,
    ⟨(some 28), none, .q (.len (.t 27)), []⟩,
    ⟨(some 29), none, .q (.bin .lss (.t 26) (.t 28)), []⟩,
    ⟨(some 30), none, .q (.mv (.t 29)), []⟩,
    ⟨(some 31), (some (30, true)), .q (.mv (.t 6)), []⟩,
    ⟨(some 32), (some (30, true)), .q (.bin .lss (.t 31) (.v (.int .i64 20))), []⟩,
    ⟨(some 33), none, .q (.pick (.t 30) (.t 32) (.v (.bool false))), []⟩]
def c9_17 : ACode := .cond (.t 33) .skip (.exit 2)
def c9_18 : ACode := .seq c9_16 c9_17
def c9_19 : ACode := .ops [
    ⟨(some 36), none, .q (.mv (.t 0)), []⟩,
    ⟨(some 37), none, .q (.mv (.t 6)), []⟩,
    ⟨(some 38), none, .q (.ia 5 (.t 36) (.t 37)), []⟩,
    ⟨(some 39), none, .q (.ld (some 5) (.t 38)), []⟩,
    ⟨(some 7), none, .e (.alloc [(.int .i64 0), (.int .i64 0), (.int .u64 0), (.str []), (.sl .full [])]), []⟩,
    ⟨none, none, .e (.store 5 (.t 7) (.t 39)), []⟩]
def c9_20 : ACode := .ops [
    ⟨(some 40), none, .q (.fa 0 (.t 7)), []⟩,
    ⟨(some 41), none, .q (.ld none (.t 40)), []⟩]
def c9_21 : ACode := .ops [
    ⟨(some 43), none, .q (.bin .eql (.t 41) (.v (.int .i64 1))), []⟩,
    ⟨(some 42), none, .q (.mv (.t 43)), []⟩]
def c9_22 : ACode := .ops [
    ⟨(some 44), none, .q (.mv (.t 5)), []⟩,
    ⟨(some 46), none, .q (.fa 2 (.t 7)), []⟩,
    ⟨(some 47), none, .q (.ld none (.t 46)), []⟩,
    ⟨(some 45), none, .e (.call 28 [(.t 44)]), [⟨none, .ld none (.t 46), 47⟩]⟩,
    ⟨(some 48), none, .q (.bin .neq (.t 45) (.t 47)), []⟩]
def c9_23 : ACode := .ops [
    ⟨(some 2), none, .q (.mv (.v (.bool false))), []⟩]
def c9_24 : ACode := .seq c9_23 .ret
def c9_25 : ACode := .cond (.t 48) c9_24 .skip
def c9_26 : ACode := .seq c9_22 c9_25
def c9_27 : ACode := .ops [
    ⟨(some 50), none, .q (.bin .eql (.t 41) (.v (.int .i64 2))), []⟩,
    ⟨(some 49), none, .q (.mv (.t 50)), []⟩]
def c9_28 : ACode := .ops [
    ⟨(some 51), none, .q (.mv (.t 5)), []⟩,
    ⟨(some 53), none, .q (.fa 1 (.t 7)), []⟩,
    ⟨(some 54), none, .q (.ld none (.t 53)), []⟩,
    ⟨(some 52), none, .e (.call 35 [(.t 51)]), [⟨none, .ld none (.t 53), 54⟩]⟩,
    ⟨(some 55), none, .q (.bin .neq (.t 52) (.t 54)), []⟩]
def c9_29 : ACode := .ops [
    ⟨(some 2), none, .q (.mv (.v (.bool false))), []⟩]
def c9_30 : ACode := .seq c9_29 .ret
def c9_31 : ACode := .cond (.t 55) c9_30 .skip
def c9_32 : ACode := .seq c9_28 c9_31
def c9_33 : ACode := .ops [
    ⟨(some 57), none, .q (.bin .eql (.t 41) (.v (.int .i64 3))), []⟩,
    ⟨(some 56), none, .q (.mv (.t 57)), []⟩]
def c9_34 : ACode := .ops [
    ⟨(some 58), none, .q (.mv (.t 5)), []⟩,
    ⟨(some 60), none, .q (.fa 3 (.t 7)), []⟩,
    ⟨(some 61), none, .q (.ld none (.t 60)), []⟩,
    ⟨(some 59), none, .e (.call 36 [(.t 58), (.v (.int .i64 200))]), [⟨none, .ld none (.t 60), 61⟩]⟩,
    ⟨(some 62), none, .e (.call 13 [(.t 61), (.v (.int .i64 200))]), []⟩,
    ⟨(some 63), none, .q (.bin .neq (.t 59) (.t 62)), []⟩]
def c9_35 : ACode := .ops [
    ⟨(some 2), none, .q (.mv (.v (.bool false))), []⟩]
def c9_36 : ACode := .seq c9_35 .ret
def c9_37 : ACode := .cond (.t 63) c9_36 .skip
def c9_38 : ACode := .seq c9_34 c9_37
def c9_39 : ACode := .ops [
    ⟨(some 65), none, .q (.bin .eql (.t 41) (.v (.int .i64 4))), []⟩,
    ⟨(some 64), none, .q (.mv (.t 65)), []⟩]
def c9_40 : ACode := .ops [
    ⟨(some 66), none, .q (.mv (.t 5)), []⟩,
    ⟨(some 68), none, .q (.fa 4 (.t 7)), []⟩,
    ⟨(some 69), none, .q (.ld none (.t 68)), []⟩,
    ⟨(some 67), none, .e (.call 31 [(.t 66), (.v (.int .i64 20))]), [⟨none, .ld none (.t 68), 69⟩]⟩,
    ⟨(some 70), none, .e (.call 24 [(.t 69)]), []⟩,
    ⟨(some 71), none, .e (.call 38 [(.t 67), (.t 70)]), []⟩,
    ⟨(some 72), none, .q (.bin .neq (.t 71) (.v (.int .i64 0))), []⟩]
def c9_41 : ACode := .ops [
    ⟨(some 2), none, .q (.mv (.v (.bool false))), []⟩]
def c9_42 : ACode := .seq c9_41 .ret
def c9_43 : ACode := .cond (.t 72) c9_42 .skip
def c9_44 : ACode := .seq c9_40 c9_43
def c9_45 : ACode := .ops [
    ⟨(some 74), none, .q (.bin .eql (.t 41) (.v (.int .i64 5))), []⟩,
    ⟨(some 73), none, .q (.mv (.t 74)), []⟩]
def c9_46 : ACode := .ops [
    ⟨(some 75), none, .q (.fa 4 (.t 7)), []⟩,
    ⟨(some 76), none, .q (.ld none (.t 75)), []⟩,
    ⟨(some 77), none, .e (.call 20 [(.t 76)]), []⟩,
    ⟨(some 8), none, .q (.mv (.t 77)), []⟩]
def c9_47 : ACode := .ops [
    ⟨(some 78), none, .q (.mv (.t 8)), []⟩,
    ⟨(some 79), none, .e (.call 21 [(.t 78)]), []⟩,
    ⟨(some 80), none, .e (.call 22 [(.t 79)]), []⟩,
    ⟨(some 81), none, .q (.un .not (.t 80)), []⟩]
def c9_48 : ACode := .ops [
    ⟨(some 82), none, .e (.call 11 []), []⟩,
    ⟨(some 2), none, .q (.mv (.t 82)), []⟩]
def c9_49 : ACode := .seq c9_48 .ret
def c9_50 : ACode := .cond (.t 81) c9_49 .skip
def c9_51 : ACode := .seq c9_47 c9_50
def c9_52 : ACode := .ops [
    ⟨(some 83), none, .q (.mv (.t 5)), []⟩,
    ⟨(some 84), none, .e (.call 33 [(.t 83), (.v (.int .i64 10))]), []⟩,
    ⟨(some 85), none, .q (.mv (.t 8)), []⟩,
    ⟨(some 86), none, .e (.call 21 [(.t 85)]), []⟩,
    ⟨(some 87), none, .e (.call 39 [(.t 84), (.t 86)]), []⟩,
    ⟨(some 88), none, .q (.bin .neq (.t 87) (.v (.int .i64 0))), []⟩]
def c9_53 : ACode := .ops [
    ⟨(some 2), none, .q (.mv (.v (.bool false))), []⟩]
def c9_54 : ACode := .seq c9_53 .ret
def c9_55 : ACode := .cond (.t 88) c9_54 .skip
def c9_56 : ACode := .seq c9_52 c9_55
def c9_57 : ACode := .seq c9_51 c9_56
def c9_58 : ACode := .seq c9_46 c9_57
def c9_59 : ACode := .cond (.t 73) c9_58 .skip
def c9_60 : ACode := .seq c9_45 c9_59
def c9_61 : ACode := .cond (.t 64) c9_44 c9_60
def c9_62 : ACode := .seq c9_39 c9_61
def c9_63 : ACode := .cond (.t 56) c9_38 c9_62
def c9_64 : ACode := .seq c9_33 c9_63
def c9_65 : ACode := .cond (.t 49) c9_32 c9_64
def c9_66 : ACode := .seq c9_27 c9_65
def c9_67 : ACode := .cond (.t 42) c9_26 c9_66
def c9_68 : ACode := .seq c9_21 c9_67
def c9_69 : ACode := .block 4 c9_68
def c9_70 : ACode := .seq c9_20 c9_69
def c9_71 : ACode := .seq c9_19 c9_70
def c9_72 : ACode := .block 3 c9_71
def c9_73 : ACode := .ops [
    ⟨(some 34), none, .q (.mv (.t 6)), []⟩,
    ⟨(some 35), none, .q (.bin .add (.t 34) (.v (.int .i64 1))), []⟩,
    ⟨(some 6), none, .q (.mv (.t 35)), []⟩]
def c9_74 : ACode := .seq c9_72 c9_73
def c9_75 : ACode := .seq c9_18 c9_74
def c9_76 : ACode := .loop c9_75
def c9_77 : ACode := .block 2 c9_76
def c9_78 : ACode := .seq c9_15 c9_77
def c9_79 : ACode := .ops [
    ⟨(some 89), none, .e (.call 11 []), []⟩,
    ⟨(some 90), none, .q (.mv (.t 89)), []⟩,
    ⟨(some 91), (some (90, true)), .q (.mv (.t 5)), []⟩,
    ⟨(some 92), (some (90, true)), .e (.call 29 [(.t 91)]), []⟩,
    ⟨(some 93), (some (90, true)), .q (.bin .eql (.t 92) (.v (.int .i64 0))), []⟩,
    ⟨(some 94), none, .q (.pick (.t 90) (.t 93) (.v (.bool false))), []⟩,
    ⟨(some 2), none, .q (.mv (.t 94)), []⟩]
def c9_80 : ACode := .seq c9_79 .ret
def c9_81 : ACode := .seq c9_78 c9_80
def c9_82 : ACode := .seq c9_14 c9_81
def c9_83 : ACode := .seq c9_13 c9_82
def c9_84 : ACode := .seq c9_1 c9_83
def c9_85 : ACode := .seq c9_0 c9_84
@[go_sem] theorem c9_0_wp (P : Program) (Q : APost) (a : AFr) (σ : ASt) : c9_0.wp P Q a σ = ACode.wp P (.ops [
    ⟨(some 2), none, .q (.mv (.v (.bool false))), []⟩]) Q a σ := id rfl
@[go_sem] theorem c9_1_wp (P : Program) (Q : APost) (a : AFr) (σ : ASt) : c9_1.wp P Q a σ = ACode.wp P (.ops [
    ⟨(some 3), none, .e (.alloc [(.sl .full [])]), []⟩]) Q a σ := id rfl
@[go_sem] theorem c9_2_wp (P : Program) (Q : APost) (a : AFr) (σ : ASt) : c9_2.wp P Q a σ = ACode.wp P (.ops [
    ⟨(some 4), none, .q (.mv (.v (.int .i64 0))), []⟩]) Q a σ := id rfl
@[go_sem] theorem c9_3_wp (P : Program) (Q : APost) (a : AFr) (σ : ASt) : c9_3.wp P Q a σ = ACode.wp P (.ops [
    ⟨(some 9), none, .q (.mv (.t 4)), []⟩,
    ⟨(some 10), none, .q (.mv (.t 0)), []⟩,
    ⟨(some 11), none, .q (.len (.t 10)), []⟩,
    ⟨(some 12), none, .q (.bin .lss (.t 9) (.t 11)), []⟩,
    ⟨(some 13), none, .q (.mv (.t 12)), []⟩,
    ⟨(some 14), (some (13, true)), .q (.mv (.t 4)), []⟩,
    ⟨(some 15), (some (13, true)), .q (.bin .lss (.t 14) (.v (.int .i64 20))), []⟩,
    ⟨(some 16), none, .q (.pick (.t 13) (.t 15) (.v (.bool false))), []⟩]) Q a σ := id rfl
@[go_sem] theorem c9_4_wp (P : Program) (Q : APost) (a : AFr) (σ : ASt) : c9_4.wp P Q a σ = ACode.wp P (.cond (.t 16) .skip (.exit 0)) Q a σ := id rfl
@[go_sem] theorem c9_5_wp (P : Program) (Q : APost) (a : AFr) (σ : ASt) : c9_5.wp P Q a σ = ACode.wp P (.seq c9_3 c9_4) Q a σ := id rfl
@[go_sem] theorem c9_6_wp (P : Program) (Q : APost) (a : AFr) (σ : ASt) : c9_6.wp P Q a σ = ACode.wp P (.ops [
    ⟨(some 19), none, .q (.mv (.t 0)), []⟩,
    ⟨(some 20), none, .q (.mv (.t 4)), []⟩,
    ⟨(some 21), none, .q (.ia 5 (.t 19) (.t 20)), []⟩,
    ⟨(some 22), none, .q (.ld (some 5) (.t 21)), []⟩,
    ⟨(some 23), none, .e (.call 10 [(.t 3), (.t 22)]), []⟩]) Q a σ := id rfl
@[go_sem] theorem c9_7_wp (P : Program) (Q : APost) (a : AFr) (σ : ASt) : c9_7.wp P Q a σ = ACode.wp P (.block 1 c9_6) Q a σ := id rfl
@[go_sem] theorem c9_8_wp (P : Program) (Q : APost) (a : AFr) (σ : ASt) : c9_8.wp P Q a σ = ACode.wp P (.ops [
    ⟨(some 17), none, .q (.mv (.t 4)), []⟩,
    ⟨(some 18), none, .q (.bin .add (.t 17) (.v (.int .i64 1))), []⟩,
    ⟨(some 4), none, .q (.mv (.t 18)), []⟩]) Q a σ := id rfl
@[go_sem] theorem c9_9_wp (P : Program) (Q : APost) (a : AFr) (σ : ASt) : c9_9.wp P Q a σ = ACode.wp P (.seq c9_7 c9_8) Q a σ := id rfl
@[go_sem] theorem c9_10_wp (P : Program) (Q : APost) (a : AFr) (σ : ASt) : c9_10.wp P Q a σ = ACode.wp P (.seq c9_5 c9_9) Q a σ := id rfl
@[go_sem] theorem c9_11_wp (P : Program) (Q : APost) (a : AFr) (σ : ASt) : c9_11.wp P Q a σ = ACode.wp P (.loop c9_10) Q a σ := id rfl
@[go_sem] theorem c9_12_wp (P : Program) (Q : APost) (a : AFr) (σ : ASt) : c9_12.wp P Q a σ = ACode.wp P (.block 0 c9_11) Q a σ := id rfl
@[go_sem] theorem c9_13_wp (P : Program) (Q : APost) (a : AFr) (σ : ASt) : c9_13.wp P Q a σ = ACode.wp P (.seq c9_2 c9_12) Q a σ := id rfl
@[go_sem] theorem c9_14_wp (P : Program) (Q : APost) (a : AFr) (σ : ASt) : c9_14.wp P Q a σ = ACode.wp P (.ops [
    ⟨(some 24), none, .e (.call 12 [(.t 3)]), []⟩,
    ⟨(some 25), none, .e (.call 27 [(.t 24)]), []⟩,
    ⟨(some 5), none, .q (.mv (.t 25)), []⟩]) Q a σ := id rfl
@[go_sem] theorem c9_15_wp (P : Program) (Q : APost) (a : AFr) (σ : ASt) : c9_15.wp P Q a σ = ACode.wp P (.ops [
    ⟨(some 6), none, .q (.mv (.v (.int .i64 0))), []⟩]) Q a σ := id rfl
@[go_sem] theorem c9_16_wp (P : Program) (Q : APost) (a : AFr) (σ : ASt) : c9_16.wp P Q a σ = ACode.wp P (.ops [
    ⟨(some 26), none, .q (.mv (.t 6)), []⟩,
    ⟨(some 27), none, .q (.mv (.t 0)), []⟩,
    ⟨(some 28), none, .q (.len (.t 27)), []⟩,
    ⟨(some 29), none, .q (.bin .lss (.t 26) (.t 28)), []⟩,
    ⟨(some 30), none, .q (.mv (.t 29)), []⟩,
    ⟨(some 31), (some (30, true)), .q (.mv (.t 6)), []⟩,
    ⟨(some 32), (some (30, true)), .q (.bin .lss (.t 31) (.v (.int .i64 20))), []⟩,
    ⟨(some 33), none, .q (.pick (.t 30) (.t 32) (.v (.bool false))), []⟩]) Q a σ := id rfl
@[go_sem] theorem c9_17_wp (P : Program) (Q : APost) (a : AFr) (σ : ASt) : c9_17.wp P Q a σ = ACode.wp P (.cond (.t 33) .skip (.exit 2)) Q a σ := id rfl
@[go_sem] theorem c9_18_wp (P : Program) (Q : APost) (a : AFr) (σ : ASt) : c9_18.wp P Q a σ = ACode.wp P (.seq c9_16 c9_17) Q a σ := id rfl
@[go_sem] theorem c9_19_wp (P : Program) (Q : APost) (a : AFr) (σ : ASt) : c9_19.wp P Q a σ = ACode.wp P (.ops [
    ⟨(some 36), none, .q (.mv (.t 0)), []⟩,
    ⟨(some 37), none, .q (.mv (.t 6)), []⟩,
    ⟨(some 38), none, .q (.ia 5 (.t 36) (.t 37)), []⟩,
    ⟨(some 39), none, .q (.ld (some 5) (.t 38)), []⟩,
    ⟨(some 7), none, .e (.alloc [(.int .i64 0), (.int .i64 0), (.int .u64 0), (.str []), (.sl .full [])]), []⟩,
    ⟨none, none, .e (.store 5 (.t 7) (.t 39)), []⟩]) Q a σ := id rfl
@[go_sem] theorem c9_20_wp (P : Program) (Q : APost) (a : AFr) (σ : ASt) : c9_20.wp P Q a σ = ACode.wp P (.ops [
    ⟨(some 40), none, .q (.fa 0 (.t 7)), []⟩,
    ⟨(some 41), none, .q (.ld none (.t 40)), []⟩]) Q a σ := id rfl
@[go_sem] theorem c9_21_wp (P : Program) (Q : APost) (a : AFr) (σ : ASt) : c9_21.wp P Q a σ = ACode.wp P (.ops [
    ⟨(some 43), none, .q (.bin .eql (.t 41) (.v (.int .i64 1))), []⟩,
    ⟨(some 42), none, .q (.mv (.t 43)), []⟩]) Q a σ := id rfl
@[go_sem] theorem c9_22_wp (P : Program) (Q : APost) (a : AFr) (σ : ASt) : c9_22.wp P Q a σ = ACode.wp P (.ops [
    ⟨(some 44), none, .q (.mv (.t 5)), []⟩,
    ⟨(some 46), none, .q (.fa 2 (.t 7)), []⟩,
    ⟨(some 47), none, .q (.ld none (.t 46)), []⟩,
    ⟨(some 45), none, .e (.call 28 [(.t 44)]), [⟨none, .ld none (.t 46), 47⟩]⟩,
    ⟨(some 48), none, .q (.bin .neq (.t 45) (.t 47)), []⟩]) Q a σ := id rfl
@[go_sem] theorem c9_23_wp (P : Program) (Q : APost) (a : AFr) (σ : ASt) : c9_23.wp P Q a σ = ACode.wp P (.ops [
    ⟨(some 2), none, .q (.mv (.v (.bool false))), []⟩]) Q a σ := id rfl
@[go_sem] theorem c9_24_wp (P : Program) (Q : APost) (a : AFr) (σ : ASt) : c9_24.wp P Q a σ = ACode.wp P (.seq c9_23 .ret) Q a σ := id rfl
@[go_sem] theorem c9_25_wp (P : Program) (Q : APost) (a : AFr) (σ : ASt) : c9_25.wp P Q a σ = ACode.wp P (.cond (.t 48) c9_24 .skip) Q a σ := id rfl
@[go_sem] theorem c9_26_wp (P : Program) (Q : APost) (a : AFr) (σ : ASt) : c9_26.wp P Q a σ = ACode.wp P (.seq c9_22 c9_25) Q a σ := id rfl
@[go_sem] theorem c9_27_wp (P : Program) (Q : APost) (a : AFr) (σ : ASt) : c9_27.wp P Q a σ = ACode.wp P (.ops [
    ⟨(some 50), none, .q (.bin .eql (.t 41) (.v (.int .i64 2))), []⟩,
    ⟨(some 49), none, .q (.mv (.t 50)), []⟩]) Q a σ := id rfl
@[go_sem] theorem c9_28_wp (P : Program) (Q : APost) (a : AFr) (σ : ASt) : c9_28.wp P Q a σ = ACode.wp P (.ops [
    ⟨(some 51), none, .q (.mv (.t 5)), []⟩,
    ⟨(some 53), none, .q (.fa 1 (.t 7)), []⟩,
    ⟨(some 54), none, .q (.ld none (.t 53)), []⟩,
    ⟨(some 52), none, .e (.call 35 [(.t 51)]), [⟨none, .ld none (.t 53), 54⟩]⟩,
    ⟨(some 55), none, .q (.bin .neq (.t 52) (.t 54)), []⟩]) Q a σ := id rfl
@[go_sem] theorem c9_29_wp (P : Program) (Q : APost) (a : AFr) (σ : ASt) : c9_29.wp P Q a σ = ACode.wp P (.ops [
    ⟨(some 2), none, .q (.mv (.v (.bool false))), []⟩]) Q a σ := id rfl
@[go_sem] theorem c9_30_wp (P : Program) (Q : APost) (a : AFr) (σ : ASt) : c9_30.wp P Q a σ = ACode.wp P (.seq c9_29 .ret) Q a σ := id rfl
@[go_sem] theorem c9_31_wp (P : Program) (Q : APost) (a : AFr) (σ : ASt) : c9_31.wp P Q a σ = ACode.wp P (.cond (.t 55) c9_30 .skip) Q a σ := id rfl
@[go_sem] theorem c9_32_wp (P : Program) (Q : APost) (a : AFr) (σ : ASt) : c9_32.wp P Q a σ = ACode.wp P (.seq c9_28 c9_31) Q a σ := id rfl
@[go_sem] theorem c9_33_wp (P : Program) (Q : APost) (a : AFr) (σ : ASt) : c9_33.wp P Q a σ = ACode.wp P (.ops [
    ⟨(some 57), none, .q (.bin .eql (.t 41) (.v (.int .i64 3))), []⟩,
    ⟨(some 56), none, .q (.mv (.t 57)), []⟩]) Q a σ := id rfl
@[go_sem] theorem c9_34_wp (P : Program) (Q : APost) (a : AFr) (σ : ASt) : c9_34.wp P Q a σ = ACode.wp P (.ops [
    ⟨(some 58), none, .q (.mv (.t 5)), []⟩,
    ⟨(some 60), none, .q (.fa 3 (.t 7)), []⟩,
    ⟨(some 61), none, .q (.ld none (.t 60)), []⟩,
    ⟨(some 59), none, .e (.call 36 [(.t 58), (.v (.int .i64 200))]), [⟨none, .ld none (.t 60), 61⟩]⟩,
    ⟨(some 62), none, .e (.call 13 [(.t 61), (.v (.int .i64 200))]), []⟩,
    ⟨(some 63), none, .q (.bin .neq (.t 59) (.t 62)), []⟩]) Q a σ := id rfl
@[go_sem] theorem c9_35_wp (P : Program) (Q : APost) (a : AFr) (σ : ASt) : c9_35.wp P Q a σ = ACode.wp P (.ops [
    ⟨(some 2), none, .q (.mv (.v (.bool false))), []⟩]) Q a σ := id rfl
@[go_sem] theorem c9_36_wp (P : Program) (Q : APost) (a : AFr) (σ : ASt) : c9_36.wp P Q a σ = ACode.wp P (.seq c9_35 .ret) Q a σ := id rfl
@[go_sem] theorem c9_37_wp (P : Program) (Q : APost) (a : AFr) (σ : ASt) : c9_37.wp P Q a σ = ACode.wp P (.cond (.t 63) c9_36 .skip) Q a σ := id rfl
@[go_sem] theorem c9_38_wp (P : Program) (Q : APost) (a : AFr) (σ : ASt) : c9_38.wp P Q a σ = ACode.wp P (.seq c9_34 c9_37) Q a σ := id rfl
@[go_sem] theorem c9_39_wp (P : Program) (Q : APost) (a : AFr) (σ : ASt) : c9_39.wp P Q a σ = ACode.wp P (.ops [
    ⟨(some 65), none, .q (.bin .eql (.t 41) (.v (.int .i64 4))), []⟩,
    ⟨(some 64), none, .q (.mv (.t 65)), []⟩]) Q a σ := id rfl
@[go_sem] theorem c9_40_wp (P : Program) (Q : APost) (a : AFr) (σ : ASt) : c9_40.wp P Q a σ = ACode.wp P (.ops [
    ⟨(some 66), none, .q (.mv (.t 5)), []⟩,
    ⟨(some 68), none, .q (.fa 4 (.t 7)), []⟩,
    ⟨(some 69), none, .q (.ld none (.t 68)), []⟩,
    ⟨(some 67), none, .e (.call 31 [(.t 66), (.v (.int .i64 20))]), [⟨none, .ld none (.t 68), 69⟩]⟩,
    ⟨(some 70), none, .e (.call 24 [(.t 69)]), []⟩,
    ⟨(some 71), none, .e (.call 38 [(.t 67), (.t 70)]), []⟩,
    ⟨(some 72), none, .q (.bin .neq (.t 71) (.v (.int .i64 0))), []⟩]) Q a σ := id rfl
@[go_sem] theorem c9_41_wp (P : Program) (Q : APost) (a : AFr) (σ : ASt) : c9_41.wp P Q a σ = ACode.wp P (.ops [
    ⟨(some 2), none, .q (.mv (.v (.bool false))), []⟩]) Q a σ := id rfl
@[go_sem] theorem c9_42_wp (P : Program) (Q : APost) (a : AFr) (σ : ASt) : c9_42.wp P Q a σ = ACode.wp P (.seq c9_41 .ret) Q a σ := id rfl
@[go_sem] theorem c9_43_wp (P : Program) (Q : APost) (a : AFr) (σ : ASt) : c9_43.wp P Q a σ = ACode.wp P (.cond (.t 72) c9_42 .skip) Q a σ := id rfl
@[go_sem] theorem c9_44_wp (P : Program) (Q : APost) (a : AFr) (σ : ASt) : c9_44.wp P Q a σ = ACode.wp P (.seq c9_40 c9_43) Q a σ := id rfl
@[go_sem] theorem c9_45_wp (P : Program) (Q : APost) (a : AFr) (σ : ASt) : c9_45.wp P Q a σ = ACode.wp P (.ops [
    ⟨(some 74), none, .q (.bin .eql (.t 41) (.v (.int .i64 5))), []⟩,
    ⟨(some 73), none, .q (.mv (.t 74)), []⟩]) Q a σ := id rfl
@[go_sem] theorem c9_46_wp (P : Program) (Q : APost) (a : AFr) (σ : ASt) : c9_46.wp P Q a σ = ACode.wp P (.ops [
    ⟨(some 75), none, .q (.fa 4 (.t 7)), []⟩,
    ⟨(some 76), none, .q (.ld none (.t 75)), []⟩,
    ⟨(some 77), none, .e (.call 20 [(.t 76)]), []⟩,
    ⟨(some 8), none, .q (.mv (.t 77)), []⟩]) Q a σ := id rfl
@[go_sem] theorem c9_47_wp (P : Program) (Q : APost) (a : AFr) (σ : ASt) : c9_47.wp P Q a σ = ACode.wp P (.ops [
    ⟨(some 78), none, .q (.mv (.t 8)), []⟩,
    ⟨(some 79), none, .e (.call 21 [(.t 78)]), []⟩,
    ⟨(some 80), none, .e (.call 22 [(.t 79)]), []⟩,
    ⟨(some 81), none, .q (.un .not (.t 80)), []⟩]) Q a σ := id rfl
@[go_sem] theorem c9_48_wp (P : Program) (Q : APost) (a : AFr) (σ : ASt) : c9_48.wp P Q a σ = ACode.wp P (.ops [
    ⟨(some 82), none, .e (.call 11 []), []⟩,
    ⟨(some 2), none, .q (.mv (.t 82)), []⟩]) Q a σ := id rfl
@[go_sem] theorem c9_49_wp (P : Program) (Q : APost) (a : AFr) (σ : ASt) : c9_49.wp P Q a σ = ACode.wp P (.seq c9_48 .ret) Q a σ := id rfl
@[go_sem] theorem c9_50_wp (P : Program) (Q : APost) (a : AFr) (σ : ASt) : c9_50.wp P Q a σ = ACode.wp P (.cond (.t 81) c9_49 .skip) Q a σ := id rfl
@[go_sem] theorem c9_51_wp (P : Program) (Q : APost) (a : AFr) (σ : ASt) : c9_51.wp P Q a σ = ACode.wp P (.seq c9_47 c9_50) Q a σ := id rfl
@[go_sem] theorem c9_52_wp (P : Program) (Q : APost) (a : AFr) (σ : ASt) : c9_52.wp P Q a σ = ACode.wp P (.ops [
    ⟨(some 83), none, .q (.mv (.t 5)), []⟩,
    ⟨(some 84), none, .e (.call 33 [(.t 83), (.v (.int .i64 10))]), []⟩,
    ⟨(some 85), none, .q (.mv (.t 8)), []⟩,
    ⟨(some 86), none, .e (.call 21 [(.t 85)]), []⟩,
    ⟨(some 87), none, .e (.call 39 [(.t 84), (.t 86)]), []⟩,
    ⟨(some 88), none, .q (.bin .neq (.t 87) (.v (.int .i64 0))), []⟩]) Q a σ := id rfl
@[go_sem] theorem c9_53_wp (P : Program) (Q : APost) (a : AFr) (σ : ASt) : c9_53.wp P Q a σ = ACode.wp P (.ops [
    ⟨(some 2), none, .q (.mv (.v (.bool false))), []⟩]) Q a σ := id rfl
@[go_sem] theorem c9_54_wp (P : Program) (Q : APost) (a : AFr) (σ : ASt) : c9_54.wp P Q a σ = ACode.wp P (.seq c9_53 .ret) Q a σ := id rfl
@[go_sem] theorem c9_55_wp (P : Program) (Q : APost) (a : AFr) (σ : ASt) : c9_55.wp P Q a σ = ACode.wp P (.cond (.t 88) c9_54 .skip) Q a σ := id rfl
@[go_sem] theorem c9_56_wp (P : Program) (Q : APost) (a : AFr) (σ : ASt) : c9_56.wp P Q a σ = ACode.wp P (.seq c9_52 c9_55) Q a σ := id rfl
@[go_sem] theorem c9_57_wp (P : Program) (Q : APost) (a : AFr) (σ : ASt) : c9_57.wp P Q a σ = ACode.wp P (.seq c9_51 c9_56) Q a σ := id rfl
@[go_sem] theorem c9_58_wp (P : Program) (Q : APost) (a : AFr) (σ : ASt) : c9_58.wp P Q a σ = ACode.wp P (.seq c9_46 c9_57) Q a σ := id rfl
@[go_sem] theorem c9_59_wp (P : Program) (Q : APost) (a : AFr) (σ : ASt) : c9_59.wp P Q a σ = ACode.wp P (.cond (.t 73) c9_58 .skip) Q a σ := id rfl
@[go_sem] theorem c9_60_wp (P : Program) (Q : APost) (a : AFr) (σ : ASt) : c9_60.wp P Q a σ = ACode.wp P (.seq c9_45 c9_59) Q a σ := id rfl
@[go_sem] theorem c9_61_wp (P : Program) (Q : APost) (a : AFr) (σ : ASt) : c9_61.wp P Q a σ = ACode.wp P (.cond (.t 64) c9_44 c9_60) Q a σ := id rfl
@[go_sem] theorem c9_62_wp (P : Program) (Q : APost) (a : AFr) (σ : ASt) : c9_62.wp P Q a σ = ACode.wp P (.seq c9_39 c9_61) Q a σ := id rfl
@[go_sem] theorem c9_63_wp (P : Program) (Q : APost) (a : AFr) (σ : ASt) : c9_63.wp P Q a σ = ACode.wp P (.cond (.t 56) c9_38 c9_62) Q a σ := id rfl
@[go_sem] theorem c9_64_wp (P : Program) (Q : APost) (a : AFr) (σ : ASt) : c9_64.wp P Q a σ = ACode.wp P (.seq c9_33 c9_63) Q a σ := id rfl
@[go_sem] theorem c9_65_wp (P : Program) (Q : APost) (a : AFr) (σ : ASt) : c9_65.wp P Q a σ = ACode.wp P (.cond (.t 49) c9_32 c9_64) Q a σ := id rfl
@[go_sem] theorem c9_66_wp (P : Program) (Q : APost) (a : AFr) (σ : ASt) : c9_66.wp P Q a σ = ACode.wp P (.seq c9_27 c9_65) Q a σ := id rfl
@[go_sem] theorem c9_67_wp (P : Program) (Q : APost) (a : AFr) (σ : ASt) : c9_67.wp P Q a σ = ACode.wp P (.cond (.t 42) c9_26 c9_66) Q a σ := id rfl
@[go_sem] theorem c9_68_wp (P : Program) (Q : APost) (a : AFr) (σ : ASt) : c9_68.wp P Q a σ = ACode.wp P (.seq c9_21 c9_67) Q a σ := id rfl
@[go_sem] theorem c9_69_wp (P : Program) (Q : APost) (a : AFr) (σ : ASt) : c9_69.wp P Q a σ = ACode.wp P (.block 4 c9_68) Q a σ := id rfl
@[go_sem] theorem c9_70_wp (P : Program) (Q : APost) (a : AFr) (σ : ASt) : c9_70.wp P Q a σ = ACode.wp P (.seq c9_20 c9_69) Q a σ := id rfl
@[go_sem] theorem c9_71_wp (P : Program) (Q : APost) (a : AFr) (σ : ASt) : c9_71.wp P Q a σ = ACode.wp P (.seq c9_19 c9_70) Q a σ := id rfl
@[go_sem] theorem c9_72_wp (P : Program) (Q : APost) (a : AFr) (σ : ASt) : c9_72.wp P Q a σ = ACode.wp P (.block 3 c9_71) Q a σ := id rfl
@[go_sem] theorem c9_73_wp (P : Program) (Q : APost) (a : AFr) (σ : ASt) : c9_73.wp P Q a σ = ACode.wp P (.ops [
    ⟨(some 34), none, .q (.mv (.t 6)), []⟩,
    ⟨(some 35), none, .q (.bin .add (.t 34) (.v (.int .i64 1))), []⟩,
    ⟨(some 6), none, .q (.mv (.t 35)), []⟩]) Q a σ := id rfl
@[go_sem] theorem c9_74_wp (P : Program) (Q : APost) (a : AFr) (σ : ASt) : c9_74.wp P Q a σ = ACode.wp P (.seq c9_72 c9_73) Q a σ := id rfl
@[go_sem] theorem c9_75_wp (P : Program) (Q : APost) (a : AFr) (σ : ASt) : c9_75.wp P Q a σ = ACode.wp P (.seq c9_18 c9_74) Q a σ := id rfl
@[go_sem] theorem c9_76_wp (P : Program) (Q : APost) (a : AFr) (σ : ASt) : c9_76.wp P Q a σ = ACode.wp P (.loop c9_75) Q a σ := id rfl
@[go_sem] theorem c9_77_wp (P : Program) (Q : APost) (a : AFr) (σ : ASt) : c9_77.wp P Q a σ = ACode.wp P (.block 2 c9_76) Q a σ := id rfl
@[go_sem] theorem c9_78_wp (P : Program) (Q : APost) (a : AFr) (σ : ASt) : c9_78.wp P Q a σ = ACode.wp P (.seq c9_15 c9_77) Q a σ := id rfl
@[go_sem] theorem c9_79_wp (P : Program) (Q : APost) (a : AFr) (σ : ASt) : c9_79.wp P Q a σ = ACode.wp P (.ops [
    ⟨(some 89), none, .e (.call 11 []), []⟩,
    ⟨(some 90), none, .q (.mv (.t 89)), []⟩,
    ⟨(some 91), (some (90, true)), .q (.mv (.t 5)), []⟩,
    ⟨(some 92), (some (90, true)), .e (.call 29 [(.t 91)]), []⟩,
    ⟨(some 93), (some (90, true)), .q (.bin .eql (.t 92) (.v (.int .i64 0))), []⟩,
    ⟨(some 94), none, .q (.pick (.t 90) (.t 93) (.v (.bool false))), []⟩,
    ⟨(some 2), none, .q (.mv (.t 94)), []⟩]) Q a σ := id rfl
@[go_sem] theorem c9_80_wp (P : Program) (Q : APost) (a : AFr) (σ : ASt) : c9_80.wp P Q a σ = ACode.wp P (.seq c9_79 .ret) Q a σ := id rfl
@[go_sem] theorem c9_81_wp (P : Program) (Q : APost) (a : AFr) (σ : ASt) : c9_81.wp P Q a σ = ACode.wp P (.seq c9_78 c9_80) Q a σ := id rfl
@[go_sem] theorem c9_82_wp (P : Program) (Q : APost) (a : AFr) (σ : ASt) : c9_82.wp P Q a σ = ACode.wp P (.seq c9_14 c9_81) Q a σ := id rfl
@[go_sem] theorem c9_83_wp (P : Program) (Q : APost) (a : AFr) (σ : ASt) : c9_83.wp P Q a σ = ACode.wp P (.seq c9_13 c9_82) Q a σ := id rfl
@[go_sem] theorem c9_84_wp (P : Program) (Q : APost) (a : AFr) (σ : ASt) : c9_84.wp P Q a σ = ACode.wp P (.seq c9_1 c9_83) Q a σ := id rfl
@[go_sem] theorem c9_85_wp (P : Program) (Q : APost) (a : AFr) (σ : ASt) : c9_85.wp P Q a σ = ACode.wp P (.seq c9_0 c9_84) Q a σ := id rfl
def c9 : AFn := ⟨95, [.t 2], c9_85⟩
set_option maxRecDepth 100000 in
theorem c9_ok : compF Try.prog Try.f9 = some c9 := by kernel_rfl
theorem a9 {args : List AV} {σ : ASt} {R : AV → ASt → Prop} (hl : args.length ≤ 95) (h : c9_85.wp Try.prog (RetQ [.t 2] R) (init args) σ) : ACalls Try.prog 9 args σ R := acalls_of Try.func9 c9_ok hl h

/-! 10: tabular/tabularlaw02.put -/
def c10_0 : ACode := .ops [
    ⟨(some 3), none, .e (.box (.t 1)), []⟩,
    ⟨(some 4), none, .q (.mv (.v (.str []))), []⟩]
def c10_1 : ACode := .ops [
    ⟨(some 5), none, .q (.fa 3 (.t 3)), []⟩,
    ⟨(some 6), none, .q (.ld none (.t 5)), []⟩,
    ⟨(some 7), none, .e (.call 13 [(.t 6), (.v (.int .i64 200))]), []⟩,
    ⟨(some 8), none, .q (.fa 3 (.t 3)), []⟩,
    ⟨none, none, .e (.store 1 (.t 8) (.t 7)), []⟩]
def c10_2 : ACode := .ops [
    ⟨(some 9), none, .q (.fa 0 (.t 3)), []⟩,
    ⟨(some 10), none, .q (.ld none (.t 9)), []⟩]
def c10_3 : ACode := .ops [
    ⟨(some 12), none, .q (.bin .eql (.t 10) (.v (.int .i64 1))), []⟩,
    ⟨(some 11), none, .q (.mv (.t 12)), []⟩]
def c10_4 : ACode := .ops [
    ⟨(some 13), none, .q (.mv (.t 0)), []⟩,
    ⟨(some 14), none, .q (.fa 2 (.t 3)), []⟩,
    ⟨(some 15), none, .q (.ld none (.t 14)), []⟩,
    ⟨(some 16), none, .e (.call 40 [(.t 13), (.t 15)]), []⟩]
def c10_5 : ACode := .ops [
    ⟨(some 17), none, .q (.fa 2 (.t 3)), []⟩,
    ⟨(some 18), none, .q (.ld none (.t 17)), []⟩,
    ⟨(some 19), none, .e (.call 30 [(.t 18)]), []⟩,
    ⟨(some 4), none, .q (.mv (.t 19)), []⟩]
def c10_6 : ACode := .seq c10_5 .ret
def c10_7 : ACode := .seq c10_4 c10_6
def c10_8 : ACode := .ops [
    ⟨(some 21), none, .q (.bin .eql (.t 10) (.v (.int .i64 2))), []⟩,
    ⟨(some 20), none, .q (.mv (.t 21)), []⟩]
def c10_9 : ACode := .ops [
    ⟨(some 22), none, .q (.mv (.t 0)), []⟩,
    ⟨(some 23), none, .q (.fa 1 (.t 3)), []⟩,
    ⟨(some 24), none, .q (.ld none (.t 23)), []⟩,
    ⟨(some 25), none, .e (.call 41 [(.t 22), (.t 24)]), []⟩]
def c10_10 : ACode := .ops [
    ⟨(some 26), none, .q (.fa 1 (.t 3)), []⟩,
    ⟨(some 27), none, .q (.ld none (.t 26)), []⟩,
    ⟨(some 28), none, .e (.call 42 [(.t 27)]), []⟩,
    ⟨(some 29), none, .e (.call 30 [(.t 28)]), []⟩,
    ⟨(some 4), none, .q (.mv (.t 29)), []⟩]
def c10_11 : ACode := .seq c10_10 .ret
def c10_12 : ACode := .seq c10_9 c10_11
def c10_13 : ACode := .ops [
    ⟨(some 31), none, .q (.bin .eql (.t 10) (.v (.int .i64 3))), []⟩,
    ⟨(some 30), none, .q (.mv (.t 31)), []⟩]
def c10_14 : ACode := .ops [
    ⟨(some 32), none, .q (.mv (.t 0)), []⟩,
    ⟨(some 33), none, .q (.fa 3 (.t 3)), []⟩,
    ⟨(some 34), none, .q (.ld none (.t 33)), []⟩,
    ⟨(some 35), none, .e (.call 43 [(.t 32), (.t 34)]), []⟩]
def c10_15 : ACode := .ops [
    ⟨(some 36), none, .q (.fa 3 (.t 3)), []⟩,
    ⟨(some 37), none, .q (.ld none (.t 36)), []⟩,
    ⟨(some 38), none, .e (.call 44 [(.t 37)]), []⟩,
    ⟨(some 4), none, .q (.mv (.t 38)), []⟩]
def c10_16 : ACode := .seq c10_15 .ret
def c10_17 : ACode := .seq c10_14 c10_16
def c10_18 : ACode := .ops [
    ⟨(some 40), none, .q (.bin .eql (.t 10) (.v (.int .i64 4))), []⟩,
    ⟨(some 39), none, .q (.mv (.t 40)), []⟩]
def c10_19 : ACode := .ops [
    ⟨(some 41), none, .q (.mv (.t 0)), []⟩,
    ⟨(some 42), none, .q (.fa 4 (.t 3)), []⟩,
    ⟨(some 43), none, .q (.ld none (.t 42)), []⟩,
    ⟨(some 44), none, .e (.call 24 [(.t 43)]), []⟩,
    ⟨(some 45), none, .e (.call 45 [(.t 41), (.t 44)]), []⟩]
def c10_20 : ACode := .ops [
    ⟨(some 46), none, .q (.fa 4 (.t 3)), []⟩,
    ⟨(some 47), none, .q (.ld none (.t 46)), []⟩,
    ⟨(some 48), none, .e (.call 24 [(.t 47)]), []⟩,
    ⟨(some 49), none, .e (.call 32 [(.t 48)]), []⟩,
    ⟨(some 4), none, .q (.mv (.t 49)), []⟩]
def c10_21 : ACode := .seq c10_20 .ret
def c10_22 : ACode := .seq c10_19 c10_21
def c10_23 : ACode := .ops [
    ⟨(some 51), none, .q (.bin .eql (.t 10) (.v (.int .i64 5))), []⟩,
    ⟨(some 50), none, .q (.mv (.t 51)), []⟩]
def c10_24 : ACode := .ops [
    ⟨(some 52), none, .q (.mv (.t 0)), []⟩,
    ⟨(some 53), none, .q (.fa 4 (.t 3)), []⟩,
    ⟨(some 54), none, .q (.ld none (.t 53)), []⟩,
    ⟨(some 55), none, .e (.call 20 [(.t 54)]), []⟩,
    ⟨(some 56), none, .e (.call 46 [(.t 52), (.t 55)]), []⟩]
def c10_25 : ACode := .ops [
    ⟨(some 57), none, .q (.fa 4 (.t 3)), []⟩,
    ⟨(some 58), none, .q (.ld none (.t 57)), []⟩,
    ⟨(some 59), none, .e (.call 20 [(.t 58)]), []⟩,
    ⟨(some 60), none, .e (.call 21 [(.t 59)]), []⟩,
    ⟨(some 61), none, .e (.call 34 [(.t 60)]), []⟩,
    ⟨(some 4), none, .q (.mv (.t 61)), []⟩]
def c10_26 : ACode := .seq c10_25 .ret
def c10_27 : ACode := .seq c10_24 c10_26
def c10_28 : ACode := .cond (.t 50) c10_27 .skip
def c10_29 : ACode := .seq c10_23 c10_28
def c10_30 : ACode := .cond (.t 39) c10_22 c10_29
def c10_31 : ACode := .seq c10_18 c10_30
def c10_32 : ACode := .cond (.t 30) c10_17 c10_31
def c10_33 : ACode := .seq c10_13 c10_32
def c10_34 : ACode := .cond (.t 20) c10_12 c10_33
def c10_35 : ACode := .seq c10_8 c10_34
def c10_36 : ACode := .cond (.t 11) c10_7 c10_35
def c10_37 : ACode := .seq c10_3 c10_36
def c10_38 : ACode := .block 0 c10_37
def c10_39 : ACode := .seq c10_2 c10_38
def c10_40 : ACode := .ops [
    ⟨(some 4), none, .q (.mv (.v (.str []))), []⟩]
def c10_41 : ACode := .seq c10_40 .ret
def c10_42 : ACode := .seq c10_39 c10_41
def c10_43 : ACode := .seq c10_1 c10_42
def c10_44 : ACode := .seq c10_0 c10_43
@[go_sem] theorem c10_0_wp (P : Program) (Q : APost) (a : AFr) (σ : ASt) : c10_0.wp P Q a σ = ACode.wp P (.ops [
    ⟨(some 3), none, .e (.box (.t 1)), []⟩,
    ⟨(some 4), none, .q (.mv (.v (.str []))), []⟩]) Q a σ := id rfl
@[go_sem] theorem c10_1_wp (P : Program) (Q : APost) (a : AFr) (σ : ASt) : c10_1.wp P Q a σ = ACode.wp P (.ops [
    ⟨(some 5), none, .q (.fa 3 (.t 3)), []⟩,
    ⟨(some 6), none, .q (.ld none (.t 5)), []⟩,
    ⟨(some 7), none, .e (.call 13 [(.t 6), (.v (.int .i64 200))]), []⟩,
    ⟨(some 8), none, .q (.fa 3 (.t 3)), []⟩,
    ⟨none, none, .e (.store 1 (.t 8) (.t 7)), []⟩]) Q a σ := id rfl
@[go_sem] theorem c10_2_wp (P : Program) (Q : APost) (a : AFr) (σ : ASt) : c10_2.wp P Q a σ = ACode.wp P (.ops [
    ⟨(some 9), none, .q (.fa 0 (.t 3)), []⟩,
    ⟨(some 10), none, .q (.ld none (.t 9)), []⟩]) Q a σ := id rfl
@[go_sem] theorem c10_3_wp (P : Program) (Q : APost) (a : AFr) (σ : ASt) : c10_3.wp P Q a σ = ACode.wp P (.ops [
    ⟨(some 12), none, .q (.bin .eql (.t 10) (.v (.int .i64 1))), []⟩,
    ⟨(some 11), none, .q (.mv (.t 12)), []⟩]) Q a σ := id rfl
@[go_sem] theorem c10_4_wp (P : Program) (Q : APost) (a : AFr) (σ : ASt) : c10_4.wp P Q a σ = ACode.wp P (.ops [
    ⟨(some 13), none, .q (.mv (.t 0)), []⟩,
    ⟨(some 14), none, .q (.fa 2 (.t 3)), []⟩,
    ⟨(some 15), none, .q (.ld none (.t 14)), []⟩,
    ⟨(some 16), none, .e (.call 40 [(.t 13), (.t 15)]), []⟩]) Q a σ := id rfl
@[go_sem] theorem c10_5_wp (P : Program) (Q : APost) (a : AFr) (σ : ASt) : c10_5.wp P Q a σ = ACode.wp P (.ops [
    ⟨(some 17), none, .q (.fa 2 (.t 3)), []⟩,
    ⟨(some 18), none, .q (.ld none (.t 17)), []⟩,
    ⟨(some 19), none, .e (.call 30 [(.t 18)]), []⟩,
    ⟨(some 4), none, .q (.mv (.t 19)), []⟩]) Q a σ := id rfl
@[go_sem] theorem c10_6_wp (P : Program) (Q : APost) (a : AFr) (σ : ASt) : c10_6.wp P Q a σ = ACode.wp P (.seq c10_5 .ret) Q a σ := id rfl
@[go_sem] theorem c10_7_wp (P : Program) (Q : APost) (a : AFr) (σ : ASt) : c10_7.wp P Q a σ = ACode.wp P (.seq c10_4 c10_6) Q a σ := id rfl
@[go_sem] theorem c10_8_wp (P : Program) (Q : APost) (a : AFr) (σ : ASt) : c10_8.wp P Q a σ = ACode.wp P (.ops [
    ⟨(some 21), none, .q (.bin .eql (.t 10) (.v (.int .i64 2))), []⟩,
    ⟨(some 20), none, .q (.mv (.t 21)), []⟩]) Q a σ := id rfl
@[go_sem] theorem c10_9_wp (P : Program) (Q : APost) (a : AFr) (σ : ASt) : c10_9.wp P Q a σ = ACode.wp P (.ops [
    ⟨(some 22), none, .q (.mv (.t 0)), []⟩,
    ⟨(some 23), none, .q (.fa 1 (.t 3)), []⟩,
    ⟨(some 24), none, .q (.ld none (.t 23)), []⟩,
    ⟨(some 25), none, .e (.call 41 [(.t 22), (.t 24)]), []⟩]) Q a σ := id rfl
@[go_sem] theorem c10_10_wp (P : Program) (Q : APost) (a : AFr) (σ : ASt) : c10_10.wp P Q a σ = ACode.wp P (.ops [
    ⟨(some 26), none, .q (.fa 1 (.t 3)), []⟩,
    ⟨(some 27), none, .q (.ld none (.t 26)), []⟩,
    ⟨(some 28), none, .e (.call 42 [(.t 27)]), []⟩,
    ⟨(some 29), none, .e (.call 30 [(.t 28)]), []⟩,
    ⟨(some 4), none, .q (.mv (.t 29)), []⟩]) Q a σ := id rfl
@[go_sem] theorem c10_11_wp (P : Program) (Q : APost) (a : AFr) (σ : ASt) : c10_11.wp P Q a σ = ACode.wp P (.seq c10_10 .ret) Q a σ := id rfl
@[go_sem] theorem c10_12_wp (P : Program) (Q : APost) (a : AFr) (σ : ASt) : c10_12.wp P Q a σ = ACode.wp P (.seq c10_9 c10_11) Q a σ := id rfl
@[go_sem] theorem c10_13_wp (P : Program) (Q : APost) (a : AFr) (σ : ASt) : c10_13.wp P Q a σ = ACode.wp P (.ops [
    ⟨(some 31), none, .q (.bin .eql (.t 10) (.v (.int .i64 3))), []⟩,
    ⟨(some 30), none, .q (.mv (.t 31)), []⟩]) Q a σ := id rfl
@[go_sem] theorem c10_14_wp (P : Program) (Q : APost) (a : AFr) (σ : ASt) : c10_14.wp P Q a σ = ACode.wp P (.ops [
    ⟨(some 32), none, .q (.mv (.t 0)), []⟩,
    ⟨(some 33), none, .q (.fa 3 (.t 3)), []⟩,
    ⟨(some 34), none, .q (.ld none (.t 33)), []⟩,
    ⟨(some 35), none, .e (.call 43 [(.t 32), (.t 34)]), []⟩]) Q a σ := id rfl
@[go_sem] theorem c10_15_wp (P : Program) (Q : APost) (a : AFr) (σ : ASt) : c10_15.wp P Q a σ = ACode.wp P (.ops [
    ⟨(some 36), none, .q (.fa 3 (.t 3)), []⟩,
    ⟨(some 37), none, .q (.ld none (.t 36)), []⟩,
    ⟨(some 38), none, .e (.call 44 [(.t 37)]), []⟩,
    ⟨(some 4), none, .q (.mv (.t 38)), []⟩]) Q a σ := id rfl
@[go_sem] theorem c10_16_wp (P : Program) (Q : APost) (a : AFr) (σ : ASt) : c10_16.wp P Q a σ = ACode.wp P (.seq c10_15 .ret) Q a σ := id rfl
@[go_sem] theorem c10_17_wp (P : Program) (Q : APost) (a : AFr) (σ : ASt) : c10_17.wp P Q a σ = ACode.wp P (.seq c10_14 c10_16) Q a σ := id rfl
@[go_sem] theorem c10_18_wp (P : Program) (Q : APost) (a : AFr) (σ : ASt) : c10_18.wp P Q a σ = ACode.wp P (.ops [
    ⟨(some 40), none, .q (.bin .eql (.t 10) (.v (.int .i64 4))), []⟩,
    ⟨(some 39), none, .q (.mv (.t 40)), []⟩]) Q a σ := id rfl
@[go_sem] theorem c10_19_wp (P : Program) (Q : APost) (a : AFr) (σ : ASt) : c10_19.wp P Q a σ = ACode.wp P (.ops [
    ⟨(some 41), none, .q (.mv (.t 0)), []⟩,
    ⟨(some 42), none, .q (.fa 4 (.t 3)), []⟩,
    ⟨(some 43), none, .q (.ld none (.t 42)), []⟩,
    ⟨(some 44), none, .e (.call 24 [(.t 43)]), []⟩,
    ⟨(some 45), none, .e (.call 45 [(.t 41), (.t 44)]), []⟩]) Q a σ := id rfl
@[go_sem] theorem c10_20_wp (P : Program) (Q : APost) (a : AFr) (σ : ASt) : c10_20.wp P Q a σ = ACode.wp P (.ops [
    ⟨(some 46), none, .q (.fa 4 (.t 3)), []⟩,
    ⟨(some 47), none, .q (.ld none (.t 46)), []⟩,
    ⟨(some 48), none, .e (.call 24 [(.t 47)]), []⟩,
    ⟨(some 49), none, .e (.call 32 [(.t 48)]), []⟩,
    ⟨(some 4), none, .q (.mv (.t 49)), []⟩]) Q a σ := id rfl
@[go_sem] theorem c10_21_wp (P : Program) (Q : APost) (a : AFr) (σ : ASt) : c10_21.wp P Q a σ = ACode.wp P (.seq c10_20 .ret) Q a σ := id rfl
@[go_sem] theorem c10_22_wp (P : Program) (Q : APost) (a : AFr) (σ : ASt) : c10_22.wp P Q a σ = ACode.wp P (.seq c10_19 c10_21) Q a σ := id rfl
@[go_sem] theorem c10_23_wp (P : Program) (Q : APost) (a : AFr) (σ : ASt) : c10_23.wp P Q a σ = ACode.wp P (.ops [
    ⟨(some 51), none, .q (.bin .eql (.t 10) (.v (.int .i64 5))), []⟩,
    ⟨(some 50), none, .q (.mv (.t 51)), []⟩]) Q a σ := id rfl
@[go_sem] theorem c10_24_wp (P : Program) (Q : APost) (a : AFr) (σ : ASt) : c10_24.wp P Q a σ = ACode.wp P (.ops [
    ⟨(some 52), none, .q (.mv (.t 0)), []⟩,
    ⟨(some 53), none, .q (.fa 4 (.t 3)), []⟩,
    ⟨(some 54), none, .q (.ld none (.t 53)), []⟩,
    ⟨(some 55), none, .e (.call 20 [(.t 54)]), []⟩,
    ⟨(some 56), none, .e (.call 46 [(.t 52), (.t 55)]), []⟩]) Q a σ := id rfl
@[go_sem] theorem c10_25_wp (P : Program) (Q : APost) (a : AFr) (σ : ASt) : c10_25.wp P Q a σ = ACode.wp P (.ops [
    ⟨(some 57), none, .q (.fa 4 (.t 3)), []⟩,
    ⟨(some 58), none, .q (.ld none (.t 57)), []⟩,
    ⟨(some 59), none, .e (.call 20 [(.t 58)]), []⟩,
    ⟨(some 60), none, .e (.call 21 [(.t 59)]), []⟩,
    ⟨(some 61), none, .e (.call 34 [(.t 60)]), []⟩,
    ⟨(some 4), none, .q (.mv (.t 61)), []⟩]) Q a σ := id rfl
@[go_sem] theorem c10_26_wp (P : Program) (Q : APost) (a : AFr) (σ : ASt) : c10_26.wp P Q a σ = ACode.wp P (.seq c10_25 .ret) Q a σ := id rfl
@[go_sem] theorem c10_27_wp (P : Program) (Q : APost) (a : AFr) (σ : ASt) : c10_27.wp P Q a σ = ACode.wp P (.seq c10_24 c10_26) Q a σ := id rfl
@[go_sem] theorem c10_28_wp (P : Program) (Q : APost) (a : AFr) (σ : ASt) : c10_28.wp P Q a σ = ACode.wp P (.cond (.t 50) c10_27 .skip) Q a σ := id rfl
@[go_sem] theorem c10_29_wp (P : Program) (Q : APost) (a : AFr) (σ : ASt) : c10_29.wp P Q a σ = ACode.wp P (.seq c10_23 c10_28) Q a σ := id rfl
@[go_sem] theorem c10_30_wp (P : Program) (Q : APost) (a : AFr) (σ : ASt) : c10_30.wp P Q a σ = ACode.wp P (.cond (.t 39) c10_22 c10_29) Q a σ := id rfl
@[go_sem] theorem c10_31_wp (P : Program) (Q : APost) (a : AFr) (σ : ASt) : c10_31.wp P Q a σ = ACode.wp P (.seq c10_18 c10_30) Q a σ := id rfl
@[go_sem] theorem c10_32_wp (P : Program) (Q : APost) (a : AFr) (σ : ASt) : c10_32.wp P Q a σ = ACode.wp P (.cond (.t 30) c10_17 c10_31) Q a σ := id rfl
@[go_sem] theorem c10_33_wp (P : Program) (Q : APost) (a : AFr) (σ : ASt) : c10_33.wp P Q a σ = ACode.wp P (.seq c10_13 c10_32) Q a σ := id rfl
@[go_sem] theorem c10_34_wp (P : Program) (Q : APost) (a : AFr) (σ : ASt) : c10_34.wp P Q a σ = ACode.wp P (.cond (.t 20) c10_12 c10_33) Q a σ := id rfl
@[go_sem] theorem c10_35_wp (P : Program) (Q : APost) (a : AFr) (σ : ASt) : c10_35.wp P Q a σ = ACode.wp P (.seq c10_8 c10_34) Q a σ := id rfl
@[go_sem] theorem c10_36_wp (P : Program) (Q : APost) (a : AFr) (σ : ASt) : c10_36.wp P Q a σ = ACode.wp P (.cond (.t 11) c10_7 c10_35) Q a σ := id rfl
@[go_sem] theorem c10_37_wp (P : Program) (Q : APost) (a : AFr) (σ : ASt) : c10_37.wp P Q a σ = ACode.wp P (.seq c10_3 c10_36) Q a σ := id rfl
@[go_sem] theorem c10_38_wp (P : Program) (Q : APost) (a : AFr) (σ : ASt) : c10_38.wp P Q a σ = ACode.wp P (.block 0 c10_37) Q a σ := id rfl
@[go_sem] theorem c10_39_wp (P : Program) (Q : APost) (a : AFr) (σ : ASt) : c10_39.wp P Q a σ = ACode.wp P (.seq c10_2 c10_38) Q a σ := id rfl
@[go_sem] theorem c10_40_wp (P : Program) (Q : APost) (a : AFr) (σ : ASt) : c10_40.wp P Q a σ = ACode.wp P (.ops [
    ⟨(some 4), none, .q (.mv (.v (.str []))), []⟩]) Q a σ := id rfl
@[go_sem] theorem c10_41_wp (P : Program) (Q : APost) (a : AFr) (σ : ASt) : c10_41.wp P Q a σ = ACode.wp P (.seq c10_40 .ret) Q a σ := id rfl
@[go_sem] theorem c10_42_wp (P : Program) (Q : APost) (a : AFr) (σ : ASt) : c10_42.wp P Q a σ = ACode.wp P (.seq c10_39 c10_41) Q a σ := id rfl
@[go_sem] theorem c10_43_wp (P : Program) (Q : APost) (a : AFr) (σ : ASt) : c10_43.wp P Q a σ = ACode.wp P (.seq c10_1 c10_42) Q a σ := id rfl
@[go_sem] theorem c10_44_wp (P : Program) (Q : APost) (a : AFr) (σ : ASt) : c10_44.wp P Q a σ = ACode.wp P (.seq c10_0 c10_43) Q a σ := id rfl
def c10 : AFn := ⟨62, [.t 4], c10_44⟩
set_option maxRecDepth 100000 in
theorem c10_ok : compF Try.prog Try.f10 = some c10 := by kernel_rfl
theorem a10 {args : List AV} {σ : ASt} {R : AV → ASt → Prop} (hl : args.length ≤ 62) (h : c10_44.wp Try.prog (RetQ [.t 4] R) (init args) σ) : ACalls Try.prog 10 args σ R := acalls_of Try.func10 c10_ok hl h

/-! 13: tabular/tabularlaw01.Cut -/
def c13_0 : ACode := .ops [
    ⟨(some 4), none, .q (.mv (.v (.str []))), []⟩]
def c13_1 : ACode := .ops [
    ⟨(some 5), none, .q (.mv (.t 0)), []⟩,
    ⟨(some 6), none, .q (.lenS (.t 5)), []⟩,
    ⟨(some 7), none, .q (.mv (.t 1)), []⟩,
    ⟨(some 8), none, .q (.bin .gtr (.t 6) (.t 7)), []⟩]
def c13_2 : ACode := .ops [
    ⟨(some 9), none, .q (.mv (.t 0)), []⟩,
    ⟨(some 10), none, .q (.mv (.t 1)), []⟩,
    ⟨(some 11), none, .q (.slto (true, 0) (.t 9) (.t 10)), []⟩,
    ⟨(some 4), none, .q (.mv (.t 11)), []⟩]
def c13_3 : ACode := .seq c13_2 .ret
def c13_4 : ACode := .cond (.t 8) c13_3 .skip
def c13_5 : ACode := .seq c13_1 c13_4
def c13_6 : ACode := .ops [
    ⟨(some 12), none, .q (.mv (.t 0)), []⟩,
    ⟨(some 4), none, .q (.mv (.t 12)), []⟩]
def c13_7 : ACode := .seq c13_6 .ret
def c13_8 : ACode := .seq c13_5 c13_7
def c13_9 : ACode := .seq c13_0 c13_8
@[go_sem] theorem c13_0_wp (P : Program) (Q : APost) (a : AFr) (σ : ASt) : c13_0.wp P Q a σ = ACode.wp P (.ops [
    ⟨(some 4), none, .q (.mv (.v (.str []))), []⟩]) Q a σ := id rfl
@[go_sem] theorem c13_1_wp (P : Program) (Q : APost) (a : AFr) (σ : ASt) : c13_1.wp P Q a σ = ACode.wp P (.ops [
    ⟨(some 5), none, .q (.mv (.t 0)), []⟩,
    ⟨(some 6), none, .q (.lenS (.t 5)), []⟩,
    ⟨(some 7), none, .q (.mv (.t 1)), []⟩,
    ⟨(some 8), none, .q (.bin .gtr (.t 6) (.t 7)), []⟩]) Q a σ := id rfl
@[go_sem] theorem c13_2_wp (P : Program) (Q : APost) (a : AFr) (σ : ASt) : c13_2.wp P Q a σ = ACode.wp P (.ops [
    ⟨(some 9), none, .q (.mv (.t 0)), []⟩,
    ⟨(some 10), none, .q (.mv (.t 1)), []⟩,
    ⟨(some 11), none, .q (.slto (true, 0) (.t 9) (.t 10)), []⟩,
    ⟨(some 4), none, .q (.mv (.t 11)), []⟩]) Q a σ := id rfl
@[go_sem] theorem c13_3_wp (P : Program) (Q : APost) (a : AFr) (σ : ASt) : c13_3.wp P Q a σ = ACode.wp P (.seq c13_2 .ret) Q a σ := id rfl
@[go_sem] theorem c13_4_wp (P : Program) (Q : APost) (a : AFr) (σ : ASt) : c13_4.wp P Q a σ = ACode.wp P (.cond (.t 8) c13_3 .skip) Q a σ := id rfl
@[go_sem] theorem c13_5_wp (P : Program) (Q : APost) (a : AFr) (σ : ASt) : c13_5.wp P Q a σ = ACode.wp P (.seq c13_1 c13_4) Q a σ := id rfl
@[go_sem] theorem c13_6_wp (P : Program) (Q : APost) (a : AFr) (σ : ASt) : c13_6.wp P Q a σ = ACode.wp P (.ops [
    ⟨(some 12), none, .q (.mv (.t 0)), []⟩,
    ⟨(some 4), none, .q (.mv (.t 12)), []⟩]) Q a σ := id rfl
@[go_sem] theorem c13_7_wp (P : Program) (Q : APost) (a : AFr) (σ : ASt) : c13_7.wp P Q a σ = ACode.wp P (.seq c13_6 .ret) Q a σ := id rfl
@[go_sem] theorem c13_8_wp (P : Program) (Q : APost) (a : AFr) (σ : ASt) : c13_8.wp P Q a σ = ACode.wp P (.seq c13_5 c13_7) Q a σ := id rfl
@[go_sem] theorem c13_9_wp (P : Program) (Q : APost) (a : AFr) (σ : ASt) : c13_9.wp P Q a σ = ACode.wp P (.seq c13_0 c13_8) Q a σ := id rfl
def c13 : AFn := ⟨13, [.t 4], c13_9⟩
set_option maxRecDepth 100000 in
theorem c13_ok : compF Try.prog Try.f13 = some c13 := by kernel_rfl
theorem a13 {args : List AV} {σ : ASt} {R : AV → ASt → Prop} (hl : args.length ≤ 13) (h : c13_9.wp Try.prog (RetQ [.t 4] R) (init args) σ) : ACalls Try.prog 13 args σ R := acalls_of Try.func13 c13_ok hl h

/-! 14: tabular/vint.PutU32 -/
def c14_0 : ACode := .ops [
    ⟨(some 5), none, .q (.mv (.v (.int .i64 0))), []⟩]
def c14_1 : ACode := .ops [
    ⟨(some 6), none, .q (.bin .lss (.t 5) (.v (.int .i64 4))), []⟩]
def c14_2 : ACode := .cond (.t 6) .skip (.exit 0)
def c14_3 : ACode := .ops [
    ⟨(some 7), none, .q (.mv (.t 5)), []⟩,
    ⟨(some 4), none, .q (.mv (.t 7)), []⟩]
def c14_4 : ACode := .ops [
    ⟨(some 8), none, .q (.mv (.t 0)), []⟩,
    ⟨(some 9), none, .q (.mv (.t 4)), []⟩,
    ⟨(some 10), none, .q (.mv (.t 1)), []⟩,
    ⟨(some 11), none, .q (.mv (.t 4)), []⟩,
    ⟨(some 12), none, .q (.bin .mul (.v (.int .i64 8)) (.t 11)), []⟩,
    ⟨(some 13), none, .q (.bin .shr (.t 10) (.t 12)), []⟩,
    ⟨(some 14), none, .q (.conv .u8 (.t 13)), []⟩,
    ⟨(some 15), none, .q (.ia 1 (.t 8) (.t 9)), []⟩,
    ⟨none, none, .e (.store 1 (.t 15) (.t 14)), []⟩]
def c14_5 : ACode := .seq c14_3 c14_4
def c14_6 : ACode := .block 1 c14_5
def c14_7 : ACode := .ops [
    ⟨(some 16), none, .q (.bin .add (.t 5) (.v (.int .i64 1))), []⟩,
    ⟨(some 5), none, .q (.mv (.t 16)), []⟩]
def c14_8 : ACode := .seq c14_6 c14_7
def c14_9 : ACode := .seq c14_2 c14_8
def c14_10 : ACode := .seq c14_1 c14_9
def c14_11 : ACode := .loop c14_10
def c14_12 : ACode := .block 0 c14_11
def c14_13 : ACode := .seq c14_0 c14_12
@[go_sem] theorem c14_0_wp (P : Program) (Q : APost) (a : AFr) (σ : ASt) : c14_0.wp P Q a σ = ACode.wp P (.ops [
    ⟨(some 5), none, .q (.mv (.v (.int .i64 0))), []⟩]) Q a σ := id rfl
@[go_sem] theorem c14_1_wp (P : Program) (Q : APost) (a : AFr) (σ : ASt) : c14_1.wp P Q a σ = ACode.wp P (.ops [
    ⟨(some 6), none, .q (.bin .lss (.t 5) (.v (.int .i64 4))), []⟩]) Q a σ := id rfl
@[go_sem] theorem c14_2_wp (P : Program) (Q : APost) (a : AFr) (σ : ASt) : c14_2.wp P Q a σ = ACode.wp P (.cond (.t 6) .skip (.exit 0)) Q a σ := id rfl
@[go_sem] theorem c14_3_wp (P : Program) (Q : APost) (a : AFr) (σ : ASt) : c14_3.wp P Q a σ = ACode.wp P (.ops [
    ⟨(some 7), none, .q (.mv (.t 5)), []⟩,
    ⟨(some 4), none, .q (.mv (.t 7)), []⟩]) Q a σ := id rfl
@[go_sem] theorem c14_4_wp (P : Program) (Q : APost) (a : AFr) (σ : ASt) : c14_4.wp P Q a σ = ACode.wp P (.ops [
    ⟨(some 8), none, .q (.mv (.t 0)), []⟩,
    ⟨(some 9), none, .q (.mv (.t 4)), []⟩,
    ⟨(some 10), none, .q (.mv (.t 1)), []⟩,
    ⟨(some 11), none, .q (.mv (.t 4)), []⟩,
    ⟨(some 12), none, .q (.bin .mul (.v (.int .i64 8)) (.t 11)), []⟩,
    ⟨(some 13), none, .q (.bin .shr (.t 10) (.t 12)), []⟩,
    ⟨(some 14), none, .q (.conv .u8 (.t 13)), []⟩,
    ⟨(some 15), none, .q (.ia 1 (.t 8) (.t 9)), []⟩,
    ⟨none, none, .e (.store 1 (.t 15) (.t 14)), []⟩]) Q a σ := id rfl
@[go_sem] theorem c14_5_wp (P : Program) (Q : APost) (a : AFr) (σ : ASt) : c14_5.wp P Q a σ = ACode.wp P (.seq c14_3 c14_4) Q a σ := id rfl
@[go_sem] theorem c14_6_wp (P : Program) (Q : APost) (a : AFr) (σ : ASt) : c14_6.wp P Q a σ = ACode.wp P (.block 1 c14_5) Q a σ := id rfl
@[go_sem] theorem c14_7_wp (P : Program) (Q : APost) (a : AFr) (σ : ASt) : c14_7.wp P Q a σ = ACode.wp P (.ops [
    ⟨(some 16), none, .q (.bin .add (.t 5) (.v (.int .i64 1))), []⟩,
    ⟨(some 5), none, .q (.mv (.t 16)), []⟩]) Q a σ := id rfl
@[go_sem] theorem c14_8_wp (P : Program) (Q : APost) (a : AFr) (σ : ASt) : c14_8.wp P Q a σ = ACode.wp P (.seq c14_6 c14_7) Q a σ := id rfl
@[go_sem] theorem c14_9_wp (P : Program) (Q : APost) (a : AFr) (σ : ASt) : c14_9.wp P Q a σ = ACode.wp P (.seq c14_2 c14_8) Q a σ := id rfl
@[go_sem] theorem c14_10_wp (P : Program) (Q : APost) (a : AFr) (σ : ASt) : c14_10.wp P Q a σ = ACode.wp P (.seq c14_1 c14_9) Q a σ := id rfl
@[go_sem] theorem c14_11_wp (P : Program) (Q : APost) (a : AFr) (σ : ASt) : c14_11.wp P Q a σ = ACode.wp P (.loop c14_10) Q a σ := id rfl
@[go_sem] theorem c14_12_wp (P : Program) (Q : APost) (a : AFr) (σ : ASt) : c14_12.wp P Q a σ = ACode.wp P (.block 0 c14_11) Q a σ := id rfl
@[go_sem] theorem c14_13_wp (P : Program) (Q : APost) (a : AFr) (σ : ASt) : c14_13.wp P Q a σ = ACode.wp P (.seq c14_0 c14_12) Q a σ := id rfl
def c14 : AFn := ⟨17, [], c14_13⟩
set_option maxRecDepth 100000 in
theorem c14_ok : compF Try.prog Try.f14 = some c14 := by kernel_rfl
theorem a14 {args : List AV} {σ : ASt} {R : AV → ASt → Prop} (hl : args.length ≤ 17) (h : c14_13.wp Try.prog (RetQ [] R) (init args) σ) : ACalls Try.prog 14 args σ R := acalls_of Try.func14 c14_ok hl h

/-! 16: tabular/vint.U32 -/
def c16_0 : ACode := .ops [
    ⟨(some 2), none, .q (.mv (.v (.int .u32 0))), []⟩]
def c16_1 : ACode := .ops [
    ⟨(some 3), none, .q (.mv (.t 0)), []⟩,
    ⟨(some 4), none, .q (.ia 1 (.t 3) (.v (.int .i64 0))), []⟩,
    ⟨(some 5), none, .q (.ld none (.t 4)), []⟩,
    ⟨(some 6), none, .q (.conv .u32 (.t 5)), []⟩,
    ⟨(some 7), none, .q (.mv (.t 0)), []⟩,
    ⟨(some 8), none, .q (.ia 1 (.t 7) (.v (.int .i64 1))), []⟩,
    ⟨(some 9), none, .q (.ld none (.t 8)), []⟩,
    ⟨(some 10), none, .q (.conv .u32 (.t 9)), []⟩,
    ⟨(some 11), none, .q (.bin .shl (.t 10) (.v (.int .u64 8))), []⟩,
    ⟨(some 12), none, .q (.bin .or (.t 6) (.t 11)), []⟩,
    ⟨(some 13), none, .q (.mv (.t 0)), []⟩,
    ⟨(some 14), none, .q (.ia 1 (.t 13) (.v (.int .i64 2))), []⟩,
    ⟨(some 15), none, .q (.ld none (.t 14)), []⟩,
    ⟨(some 16), none, .q (.conv .u32 (.t 15)), []⟩,
    ⟨(some 17), none, .q (.bin .shl (.t 16) (.v (.int .u64 16))), []⟩,
    ⟨(some 18), none, .q (.bin .or (.t 12) (.t 17)), []⟩,
    ⟨(some 19), none, .q (.mv (.t 0)), []⟩,
    ⟨(some 20), none, .q (.ia 1 (.t 19) (.v (.int .i64 3))), []⟩,
    ⟨(some 21), none, .q (.ld none (.t 20)), []⟩,
    ⟨(some 22), none, .q (.conv .u32 (.t 21)), []⟩,
    ⟨(some 23), none, .q (.bin .shl (.t 22) (.v (.int .u64 24))), []⟩,
    ⟨(some 24), none, .q (.bin .or (.t 18) (.t 23)), []⟩,
    ⟨(some 2), none, .q (.mv (.t 24)), []⟩]
def c16_2 : ACode := .seq c16_1 .ret
def c16_3 : ACode := .seq c16_0 c16_2
@[go_sem] theorem c16_0_wp (P : Program) (Q : APost) (a : AFr) (σ : ASt) : c16_0.wp P Q a σ = ACode.wp P (.ops [
    ⟨(some 2), none, .q (.mv (.v (.int .u32 0))), []⟩]) Q a σ := id rfl
@[go_sem] theorem c16_1_wp (P : Program) (Q : APost) (a : AFr) (σ : ASt) : c16_1.wp P Q a σ = ACode.wp P (.ops [
    ⟨(some 3), none, .q (.mv (.t 0)), []⟩,
    ⟨(some 4), none, .q (.ia 1 (.t 3) (.v (.int .i64 0))), []⟩,
    ⟨(some 5), none, .q (.ld none (.t 4)), []⟩,
    ⟨(some 6), none, .q (.conv .u32 (.t 5)), []⟩,
    ⟨(some 7), none, .q (.mv (.t 0)), []⟩,
    ⟨(some 8), none, .q (.ia 1 (.t 7) (.v (.int .i64 1))), []⟩,
    ⟨(some 9), none, .q (.ld none (.t 8)), []⟩,
    ⟨(some 10), none, .q (.conv .u32 (.t 9)), []⟩,
    ⟨(some 11), none, .q (.bin .shl (.t 10) (.v (.int .u64 8))), []⟩,
    ⟨(some 12), none, .q (.bin .or (.t 6) (.t 11)), []⟩,
    ⟨(some 13), none, .q (.mv (.t 0)), []⟩,
    ⟨(some 14), none, .q (.ia 1 (.t 13) (.v (.int .i64 2))), []⟩,
    ⟨(some 15), none, .q (.ld none (.t 14)), []⟩,
    ⟨(some 16), none, .q (.conv .u32 (.t 15)), []⟩,
    ⟨(some 17), none, .q (.bin .shl (.t 16) (.v (.int .u64 16))), []⟩,
    ⟨(some 18), none, .q (.bin .or (.t 12) (.t 17)), []⟩,
    ⟨(some 19), none, .q (.mv (.t 0)), []⟩,
    ⟨(some 20), none, .q (.ia 1 (.t 19) (.v (.int .i64 3))), []⟩,
    ⟨(some 21), none, .q (.ld none (.t 20)), []⟩,
    ⟨(some 22), none, .q (.conv .u32 (.t 21)), []⟩,
    ⟨(some 23), none, .q (.bin .shl (.t 22) (.v (.int .u64 24))), []⟩,
    ⟨(some 24), none, .q (.bin .or (.t 18) (.t 23)), []⟩,
    ⟨(some 2), none, .q (.mv (.t 24)), []⟩]) Q a σ := id rfl
@[go_sem] theorem c16_2_wp (P : Program) (Q : APost) (a : AFr) (σ : ASt) : c16_2.wp P Q a σ = ACode.wp P (.seq c16_1 .ret) Q a σ := id rfl
@[go_sem] theorem c16_3_wp (P : Program) (Q : APost) (a : AFr) (σ : ASt) : c16_3.wp P Q a σ = ACode.wp P (.seq c16_0 c16_2) Q a σ := id rfl
def c16 : AFn := ⟨25, [.t 2], c16_3⟩
set_option maxRecDepth 100000 in
theorem c16_ok : compF Try.prog Try.f16 = some c16 := by kernel_rfl
theorem a16 {args : List AV} {σ : ASt} {R : AV → ASt → Prop} (hl : args.length ≤ 25) (h : c16_3.wp Try.prog (RetQ [.t 2] R) (init args) σ) : ACalls Try.prog 16 args σ R := acalls_of Try.func16 c16_ok hl h

/-! 20: tabular/tabularlaw02.spans -/
def c20_0 : ACode := .ops [
    ⟨(some 2), none, .q (.mv (.v (.sl .full []))), []⟩]
def c20_1 : ACode := .ops [
    ⟨(some 5), none, .q (.mv (.t 0)), []⟩,
    ⟨(some 6), none, .e (.call 24 [(.t 5)]), []⟩,
    ⟨(some 0), none, .q (.mv (.t 6)), []⟩]
def c20_2 : ACode := .ops [
    ⟨(some 7), none, .q (.bsl 2 []), []⟩,
    ⟨(some 3), none, .q (.mv (.t 7)), []⟩]
def c20_3 : ACode := .ops [
    ⟨(some 4), none, .q (.mv (.v (.int .i64 0))), []⟩]
def c20_4 : ACode := .ops [
    ⟨(some 8), none, .q (.mv (.t 4)), []⟩,
    ⟨(some 9), none, .q (.bin .add (.t 8) (.v (.int .i64 1))), []⟩,
    ⟨(some 10), none, .q (.mv (.t 0)), []⟩,
    ⟨(some 11), none, .q (.len (.t 10)), []⟩,
    ⟨(some 12), none, .q (.bin .lss (.t 9) (.t 11)), []⟩]
def c20_5 : ACode := .cond (.t 12) .skip (.exit 0)
def c20_6 : ACode := .seq c20_4 c20_5
def c20_7 : ACode := .ops [
    ⟨(some 15), none, .q (.mv (.t 3)), []⟩,
    ⟨(some 16), none, .q (.mv (.t 0)), []⟩,
    ⟨(some 17), none, .q (.mv (.t 4)), []⟩,
    ⟨(some 18), none, .q (.ia 1 (.t 16) (.t 17)), []⟩,
    ⟨(some 19), none, .q (.ld none (.t 18)), []⟩,
    ⟨(some 20), none, .q (.mv (.t 0)), []⟩,
    ⟨(some 21), none, .q (.mv (.t 4)), []⟩,
    ⟨(some 22), none, .q (.bin .add (.t 21) (.v (.int .i64 1))), []⟩,
    ⟨(some 23), none, .q (.ia 1 (.t 20) (.t 22)), []⟩,
    ⟨(some 24), none, .q (.ld none (.t 23)), []⟩,
    ⟨(some 25), none, .q (.build [(.int .u64 0), (.int .u64 0)] [(0, 1, (.t 19)), (1, 1, (.t 24))]), []⟩,
    ⟨(some 26), none, .q (.bsl 2 [(.t 25)]), []⟩,
    ⟨(some 27), none, .e (.app 2 16 [(.int .u64 0), (.int .u64 0)] (.t 15) (.t 26)), []⟩,
    ⟨(some 3), none, .q (.mv (.t 27)), []⟩]
def c20_8 : ACode := .block 1 c20_7
def c20_9 : ACode := .ops [
    ⟨(some 13), none, .q (.mv (.t 4)), []⟩,
    ⟨(some 14), none, .q (.bin .add (.t 13) (.v (.int .i64 2))), []⟩,
    ⟨(some 4), none, .q (.mv (.t 14)), []⟩]
def c20_10 : ACode := .seq c20_8 c20_9
def c20_11 : ACode := .seq c20_6 c20_10
def c20_12 : ACode := .loop c20_11
def c20_13 : ACode := .block 0 c20_12
def c20_14 : ACode := .seq c20_3 c20_13
def c20_15 : ACode := .ops [
    ⟨(some 28), none, .q (.mv (.t 3)), []⟩,
    ⟨(some 2), none, .q (.mv (.t 28)), []⟩]
def c20_16 : ACode := .seq c20_15 .ret
def c20_17 : ACode := .seq c20_14 c20_16
def c20_18 : ACode := .seq c20_2 c20_17
def c20_19 : ACode := .seq c20_1 c20_18
def c20_20 : ACode := .seq c20_0 c20_19
@[go_sem] theorem c20_0_wp (P : Program) (Q : APost) (a : AFr) (σ : ASt) : c20_0.wp P Q a σ = ACode.wp P (.ops [
    ⟨(some 2), none, .q (.mv (.v (.sl .full []))), []⟩]) Q a σ := id rfl
@[go_sem] theorem c20_1_wp (P : Program) (Q : APost) (a : AFr) (σ : ASt) : c20_1.wp P Q a σ = ACode.wp P (.ops [
    ⟨(some 5), none, .q (.mv (.t 0)), []⟩,
    ⟨(some 6), none, .e (.call 24 [(.t 5)]), []⟩,
    ⟨(some 0), none, .q (.mv (.t 6)), []⟩]) Q a σ := id rfl
@[go_sem] theorem c20_2_wp (P : Program) (Q : APost) (a : AFr) (σ : ASt) : c20_2.wp P Q a σ = ACode.wp P (.ops [
    ⟨(some 7), none, .q (.bsl 2 []), []⟩,
    ⟨(some 3), none, .q (.mv (.t 7)), []⟩]) Q a σ := id rfl
@[go_sem] theorem c20_3_wp (P : Program) (Q : APost) (a : AFr) (σ : ASt) : c20_3.wp P Q a σ = ACode.wp P (.ops [
    ⟨(some 4), none, .q (.mv (.v (.int .i64 0))), []⟩]) Q a σ := id rfl
@[go_sem] theorem c20_4_wp (P : Program) (Q : APost) (a : AFr) (σ : ASt) : c20_4.wp P Q a σ = ACode.wp P (.ops [
    ⟨(some 8), none, .q (.mv (.t 4)), []⟩,
    ⟨(some 9), none, .q (.bin .add (.t 8) (.v (.int .i64 1))), []⟩,
    ⟨(some 10), none, .q (.mv (.t 0)), []⟩,
    ⟨(some 11), none, .q (.len (.t 10)), []⟩,
    ⟨(some 12), none, .q (.bin .lss (.t 9) (.t 11)), []⟩]) Q a σ := id rfl
@[go_sem] theorem c20_5_wp (P : Program) (Q : APost) (a : AFr) (σ : ASt) : c20_5.wp P Q a σ = ACode.wp P (.cond (.t 12) .skip (.exit 0)) Q a σ := id rfl
@[go_sem] theorem c20_6_wp (P : Program) (Q : APost) (a : AFr) (σ : ASt) : c20_6.wp P Q a σ = ACode.wp P (.seq c20_4 c20_5) Q a σ := id rfl
@[go_sem] theorem c20_7_wp (P : Program) (Q : APost) (a : AFr) (σ : ASt) : c20_7.wp P Q a σ = ACode.wp P (.ops [
    ⟨(some 15), none, .q (.mv (.t 3)), []⟩,
    ⟨(some 16), none, .q (.mv (.t 0)), []⟩,
    ⟨(some 17), none, .q (.mv (.t 4)), []⟩,
    ⟨(some 18), none, .q (.ia 1 (.t 16) (.t 17)), []⟩,
    ⟨(some 19), none, .q (.ld none (.t 18)), []⟩,
    ⟨(some 20), none, .q (.mv (.t 0)), []⟩,
    ⟨(some 21), none, .q (.mv (.t 4)), []⟩,
    ⟨(some 22), none, .q (.bin .add (.t 21) (.v (.int .i64 1))), []⟩,
    ⟨(some 23), none, .q (.ia 1 (.t 20) (.t 22)), []⟩,
    ⟨(some 24), none, .q (.ld none (.t 23)), []⟩,
    ⟨(some 25), none, .q (.build [(.int .u64 0), (.int .u64 0)] [(0, 1, (.t 19)), (1, 1, (.t 24))]), []⟩,
    ⟨(some 26), none, .q (.bsl 2 [(.t 25)]), []⟩,
    ⟨(some 27), none, .e (.app 2 16 [(.int .u64 0), (.int .u64 0)] (.t 15) (.t 26)), []⟩,
    ⟨(some 3), none, .q (.mv (.t 27)), []⟩]) Q a σ := id rfl
@[go_sem] theorem c20_8_wp (P : Program) (Q : APost) (a : AFr) (σ : ASt) : c20_8.wp P Q a σ = ACode.wp P (.block 1 c20_7) Q a σ := id rfl
@[go_sem] theorem c20_9_wp (P : Program) (Q : APost) (a : AFr) (σ : ASt) : c20_9.wp P Q a σ = ACode.wp P (.ops [
    ⟨(some 13), none, .q (.mv (.t 4)), []⟩,
    ⟨(some 14), none, .q (.bin .add (.t 13) (.v (.int .i64 2))), []⟩,
    ⟨(some 4), none, .q (.mv (.t 14)), []⟩]) Q a σ := id rfl
@[go_sem] theorem c20_10_wp (P : Program) (Q : APost) (a : AFr) (σ : ASt) : c20_10.wp P Q a σ = ACode.wp P (.seq c20_8 c20_9) Q a σ := id rfl
@[go_sem] theorem c20_11_wp (P : Program) (Q : APost) (a : AFr) (σ : ASt) : c20_11.wp P Q a σ = ACode.wp P (.seq c20_6 c20_10) Q a σ := id rfl
@[go_sem] theorem c20_12_wp (P : Program) (Q : APost) (a : AFr) (σ : ASt) : c20_12.wp P Q a σ = ACode.wp P (.loop c20_11) Q a σ := id rfl
@[go_sem] theorem c20_13_wp (P : Program) (Q : APost) (a : AFr) (σ : ASt) : c20_13.wp P Q a σ = ACode.wp P (.block 0 c20_12) Q a σ := id rfl
@[go_sem] theorem c20_14_wp (P : Program) (Q : APost) (a : AFr) (σ : ASt) : c20_14.wp P Q a σ = ACode.wp P (.seq c20_3 c20_13) Q a σ := id rfl
@[go_sem] theorem c20_15_wp (P : Program) (Q : APost) (a : AFr) (σ : ASt) : c20_15.wp P Q a σ = ACode.wp P (.ops [
    ⟨(some 28), none, .q (.mv (.t 3)), []⟩,
    ⟨(some 2), none, .q (.mv (.t 28)), []⟩]) Q a σ := id rfl
@[go_sem] theorem c20_16_wp (P : Program) (Q : APost) (a : AFr) (σ : ASt) : c20_16.wp P Q a σ = ACode.wp P (.seq c20_15 .ret) Q a σ := id rfl
@[go_sem] theorem c20_17_wp (P : Program) (Q : APost) (a : AFr) (σ : ASt) : c20_17.wp P Q a σ = ACode.wp P (.seq c20_14 c20_16) Q a σ := id rfl
@[go_sem] theorem c20_18_wp (P : Program) (Q : APost) (a : AFr) (σ : ASt) : c20_18.wp P Q a σ = ACode.wp P (.seq c20_2 c20_17) Q a σ := id rfl
@[go_sem] theorem c20_19_wp (P : Program) (Q : APost) (a : AFr) (σ : ASt) : c20_19.wp P Q a σ = ACode.wp P (.seq c20_1 c20_18) Q a σ := id rfl
@[go_sem] theorem c20_20_wp (P : Program) (Q : APost) (a : AFr) (σ : ASt) : c20_20.wp P Q a σ = ACode.wp P (.seq c20_0 c20_19) Q a σ := id rfl
def c20 : AFn := ⟨29, [.t 2], c20_20⟩
set_option maxRecDepth 100000 in
theorem c20_ok : compF Try.prog Try.f20 = some c20 := by kernel_rfl
theorem a20 {args : List AV} {σ : ASt} {R : AV → ASt → Prop} (hl : args.length ≤ 29) (h : c20_20.wp Try.prog (RetQ [.t 2] R) (init args) σ) : ACalls Try.prog 20 args σ R := acalls_of Try.func20 c20_ok hl h

/-! 21: tabular/tabularlaw02.told -/
def c21_0 : ACode := .ops [
    ⟨(some 2), none, .q (.mv (.v (.sl .full []))), []⟩]
def c21_1 : ACode := .ops [
    ⟨(some 6), none, .q (.bsl 2 []), []⟩,
    ⟨(some 3), none, .q (.mv (.t 6)), []⟩]
def c21_2 : ACode := .ops [
    ⟨(some 7), none, .q (.mv (.t 0)), []⟩,
    ⟨(some 8), none, .q (.len (.t 7)), []⟩,
    ⟨(some 9), none, .q (.mv (.v (.int .i64 0))), []⟩]
def c21_3 : ACode := .ops [
    ⟨(some 10), none, .q (.bin .lss (.t 9) (.t 8)), []⟩]
def c21_4 : ACode := .cond (.t 10) .skip (.exit 0)
def c21_5 : ACode := .ops [
    ⟨(some 11), none, .q (.ia 2 (.t 7) (.t 9)), []⟩,
    ⟨(some 12), none, .q (.ld (some 2) (.t 11)), []⟩,
    ⟨(some 5), none, .e (.alloc [(.int .u64 0), (.int .u64 0)]), []⟩,
    ⟨none, none, .e (.store 2 (.t 5) (.t 12)), []⟩]
def c21_6 : ACode := .ops [
    ⟨(some 13), none, .q (.mv (.t 3)), []⟩,
    ⟨(some 14), none, .q (.ld (some 2) (.t 5)), []⟩,
    ⟨(some 15), none, .q (.bsl 2 [(.t 14)]), []⟩,
    ⟨(some 16), none, .e (.app 2 16 [(.int .u64 0), (.int .u64 0)] (.t 13) (.t 15)), []⟩,
    ⟨(some 3), none, .q (.mv (.t 16)), []⟩]
def c21_7 : ACode := .seq c21_5 c21_6
def c21_8 : ACode := .block 1 c21_7
def c21_9 : ACode := .ops [
    ⟨(some 17), none, .q (.bin .add (.t 9) (.v (.int .i64 1))), []⟩,
    ⟨(some 9), none, .q (.mv (.t 17)), []⟩]
def c21_10 : ACode := .seq c21_8 c21_9
def c21_11 : ACode := .seq c21_4 c21_10
def c21_12 : ACode := .seq c21_3 c21_11
def c21_13 : ACode := .loop c21_12
def c21_14 : ACode := .block 0 c21_13
def c21_15 : ACode := .seq c21_2 c21_14
def c21_16 : ACode := .ops [
    ⟨(some 18), none, .q (.mv (.t 3)), []⟩,
    ⟨(some 2), none, .q (.mv (.t 18)), []⟩]
def c21_17 : ACode := .seq c21_16 .ret
def c21_18 : ACode := .seq c21_15 c21_17
def c21_19 : ACode := .seq c21_1 c21_18
def c21_20 : ACode := .seq c21_0 c21_19
@[go_sem] theorem c21_0_wp (P : Program) (Q : APost) (a : AFr) (σ : ASt) : c21_0.wp P Q a σ = ACode.wp P (.ops [
    ⟨(some 2), none, .q (.mv (.v (.sl .full []))), []⟩]) Q a σ := id rfl
@[go_sem] theorem c21_1_wp (P : Program) (Q : APost) (a : AFr) (σ : ASt) : c21_1.wp P Q a σ = ACode.wp P (.ops [
    ⟨(some 6), none, .q (.bsl 2 []), []⟩,
    ⟨(some 3), none, .q (.mv (.t 6)), []⟩]) Q a σ := id rfl
@[go_sem] theorem c21_2_wp (P : Program) (Q : APost) (a : AFr) (σ : ASt) : c21_2.wp P Q a σ = ACode.wp P (.ops [
    ⟨(some 7), none, .q (.mv (.t 0)), []⟩,
    ⟨(some 8), none, .q (.len (.t 7)), []⟩,
    ⟨(some 9), none, .q (.mv (.v (.int .i64 0))), []⟩]) Q a σ := id rfl
@[go_sem] theorem c21_3_wp (P : Program) (Q : APost) (a : AFr) (σ : ASt) : c21_3.wp P Q a σ = ACode.wp P (.ops [
    ⟨(some 10), none, .q (.bin .lss (.t 9) (.t 8)), []⟩]) Q a σ := id rfl
@[go_sem] theorem c21_4_wp (P : Program) (Q : APost) (a : AFr) (σ : ASt) : c21_4.wp P Q a σ = ACode.wp P (.cond (.t 10) .skip (.exit 0)) Q a σ := id rfl
@[go_sem] theorem c21_5_wp (P : Program) (Q : APost) (a : AFr) (σ : ASt) : c21_5.wp P Q a σ = ACode.wp P (.ops [
    ⟨(some 11), none, .q (.ia 2 (.t 7) (.t 9)), []⟩,
    ⟨(some 12), none, .q (.ld (some 2) (.t 11)), []⟩,
    ⟨(some 5), none, .e (.alloc [(.int .u64 0), (.int .u64 0)]), []⟩,
    ⟨none, none, .e (.store 2 (.t 5) (.t 12)), []⟩]) Q a σ := id rfl
@[go_sem] theorem c21_6_wp (P : Program) (Q : APost) (a : AFr) (σ : ASt) : c21_6.wp P Q a σ = ACode.wp P (.ops [
    ⟨(some 13), none, .q (.mv (.t 3)), []⟩,
    ⟨(some 14), none, .q (.ld (some 2) (.t 5)), []⟩,
    ⟨(some 15), none, .q (.bsl 2 [(.t 14)]), []⟩,
    ⟨(some 16), none, .e (.app 2 16 [(.int .u64 0), (.int .u64 0)] (.t 13) (.t 15)), []⟩,
    ⟨(some 3), none, .q (.mv (.t 16)), []⟩]) Q a σ := id rfl
@[go_sem] theorem c21_7_wp (P : Program) (Q : APost) (a : AFr) (σ : ASt) : c21_7.wp P Q a σ = ACode.wp P (.seq c21_5 c21_6) Q a σ := id rfl
@[go_sem] theorem c21_8_wp (P : Program) (Q : APost) (a : AFr) (σ : ASt) : c21_8.wp P Q a σ = ACode.wp P (.block 1 c21_7) Q a σ := id rfl
@[go_sem] theorem c21_9_wp (P : Program) (Q : APost) (a : AFr) (σ : ASt) : c21_9.wp P Q a σ = ACode.wp P (.ops [
    ⟨(some 17), none, .q (.bin .add (.t 9) (.v (.int .i64 1))), []⟩,
    ⟨(some 9), none, .q (.mv (.t 17)), []⟩]) Q a σ := id rfl
@[go_sem] theorem c21_10_wp (P : Program) (Q : APost) (a : AFr) (σ : ASt) : c21_10.wp P Q a σ = ACode.wp P (.seq c21_8 c21_9) Q a σ := id rfl
@[go_sem] theorem c21_11_wp (P : Program) (Q : APost) (a : AFr) (σ : ASt) : c21_11.wp P Q a σ = ACode.wp P (.seq c21_4 c21_10) Q a σ := id rfl
@[go_sem] theorem c21_12_wp (P : Program) (Q : APost) (a : AFr) (σ : ASt) : c21_12.wp P Q a σ = ACode.wp P (.seq c21_3 c21_11) Q a σ := id rfl
@[go_sem] theorem c21_13_wp (P : Program) (Q : APost) (a : AFr) (σ : ASt) : c21_13.wp P Q a σ = ACode.wp P (.loop c21_12) Q a σ := id rfl
@[go_sem] theorem c21_14_wp (P : Program) (Q : APost) (a : AFr) (σ : ASt) : c21_14.wp P Q a σ = ACode.wp P (.block 0 c21_13) Q a σ := id rfl
@[go_sem] theorem c21_15_wp (P : Program) (Q : APost) (a : AFr) (σ : ASt) : c21_15.wp P Q a σ = ACode.wp P (.seq c21_2 c21_14) Q a σ := id rfl
@[go_sem] theorem c21_16_wp (P : Program) (Q : APost) (a : AFr) (σ : ASt) : c21_16.wp P Q a σ = ACode.wp P (.ops [
    ⟨(some 18), none, .q (.mv (.t 3)), []⟩,
    ⟨(some 2), none, .q (.mv (.t 18)), []⟩]) Q a σ := id rfl
@[go_sem] theorem c21_17_wp (P : Program) (Q : APost) (a : AFr) (σ : ASt) : c21_17.wp P Q a σ = ACode.wp P (.seq c21_16 .ret) Q a σ := id rfl
@[go_sem] theorem c21_18_wp (P : Program) (Q : APost) (a : AFr) (σ : ASt) : c21_18.wp P Q a σ = ACode.wp P (.seq c21_15 c21_17) Q a σ := id rfl
@[go_sem] theorem c21_19_wp (P : Program) (Q : APost) (a : AFr) (σ : ASt) : c21_19.wp P Q a σ = ACode.wp P (.seq c21_1 c21_18) Q a σ := id rfl
@[go_sem] theorem c21_20_wp (P : Program) (Q : APost) (a : AFr) (σ : ASt) : c21_20.wp P Q a σ = ACode.wp P (.seq c21_0 c21_19) Q a σ := id rfl
def c21 : AFn := ⟨19, [.t 2], c21_20⟩
set_option maxRecDepth 100000 in
theorem c21_ok : compF Try.prog Try.f21 = some c21 := by kernel_rfl
theorem a21 {args : List AV} {σ : ASt} {R : AV → ASt → Prop} (hl : args.length ≤ 19) (h : c21_20.wp Try.prog (RetQ [.t 2] R) (init args) σ) : ACalls Try.prog 21 args σ R := acalls_of Try.func21 c21_ok hl h

/-! 22: tabular/tabularref02.Right -/
def c22_0 : ACode := .ops [
    ⟨(some 2), none, .q (.mv (.v (.bool false))), []⟩]
def c22_1 : ACode := .ops [
    ⟨(some 5), none, .q (.mv (.t 0)), []⟩,
    ⟨(some 6), none, .q (.len (.t 5)), []⟩,
    ⟨(some 7), none, .q (.mv (.v (.int .i64 0))), []⟩]
def c22_2 : ACode := .ops [
    ⟨(some 8), none, .q (.bin .lss (.t 7) (.t 6)), []⟩]
def c22_3 : ACode := .cond (.t 8) .skip (.exit 0)
def c22_4 : ACode := .ops [
    ⟨(some 9), none, .q (.mv (.t 7)), []⟩,
    ⟨(some 10), none, .q (.ia 2 (.t 5) (.t 7)), []⟩,
    ⟨(some 11), none, .q (.ld (some 2) (.t 10)), []⟩,
    ⟨(some 4), none, .e (.alloc [(.int .u64 0), (.int .u64 0)]), []⟩,
    ⟨(some 3), none, .q (.mv (.t 9)), []⟩,
    ⟨none, none, .e (.store 2 (.t 4) (.t 11)), []⟩]
def c22_5 : ACode := .ops [
    ⟨(some 12), none, .q (.fa 0 (.t 4)), []⟩,
    ⟨(some 13), none, .q (.ld none (.t 12)), []⟩,
    ⟨(some 14), none, .q (.fa 1 (.t 4)), []⟩,
    ⟨(some 15), none, .q (.ld none (.t 14)), []⟩,
    ⟨(some 16), none, .q (.bin .geq (.t 13) (.t 15)), []⟩,
    ⟨(some 17), none, .q (.mv (.t 16)), []⟩,
    ⟨(some 18), (some (17, false)), .q (.mv (.t 3)), []⟩,
    ⟨(some 19), (some (17, false)), .q (.bin .gtr (.t 18) (.v (.int .i64 0))), []⟩,
    ⟨(some 20), (some (17, false)), .q (.mv (.t 19)), []⟩,
    ⟨(some 21), (some (20, true)), .q (.fa 0 (.t 4)), []⟩,
    ⟨(some 22), (some (20, true)), .q (.ld none (.t 21)), []⟩,
    ⟨(some 23), (some (20, true)), .q (.mv (.t 0)), []⟩,
    ⟨(some 24), (some (20, true)), .q (.mv (.t 3)), []⟩,
    ⟨(some 25), (some (20, true)), .q (.bin .sub (.t 24) (.v (.int .i64 1))), []⟩,
    ⟨(some 26), (some (20, true)), .q (.ia 2 (.t 23) (.t 25)), []⟩,
    ⟨(some 27), (some (20, true)), .q (.fa 1 (.t 26)), []⟩,
    ⟨(some 28), (some (20, true)), .q (.ld none (.t 27)), []⟩,
    ⟨(some 29), (some (20, true)), .q (.bin .leq (.t 22) (.t 28)), []⟩,
    ⟨(some 30), (some (17, false)), .q (.pick (.t 20) (.t 29) (.v (.bool false))), []⟩,
    ⟨(some 31), none, .q (.pick (.t 17) (.v (.bool true)) (.t 30)), []⟩]
def c22_6 : ACode := .ops [
    ⟨(some 2), none, .q (.mv (.v (.bool false))), []⟩]
def c22_7 : ACode := .seq c22_6 .ret
def c22_8 : ACode := .cond (.t 31) c22_7 .skip
def c22_9 : ACode := .seq c22_5 c22_8
def c22_10 : ACode := .seq c22_4 c22_9
def c22_11 : ACode := .block 1 c22_10
def c22_12 : ACode := .ops [
    ⟨(some 32), none, .q (.bin .add (.t 7) (.v (.int .i64 1))), []⟩,
    ⟨(some 7), none, .q (.mv (.t 32)), []⟩]
def c22_13 : ACode := .seq c22_11 c22_12
def c22_14 : ACode := .seq c22_3 c22_13
def c22_15 : ACode := .seq c22_2 c22_14
def c22_16 : ACode := .loop c22_15
def c22_17 : ACode := .block 0 c22_16
def c22_18 : ACode := .seq c22_1 c22_17
def c22_19 : ACode := .ops [
    ⟨(some 2), none, .q (.mv (.v (.bool true))), []⟩]
def c22_20 : ACode := .seq c22_19 .ret
def c22_21 : ACode := .seq c22_18 c22_20
def c22_22 : ACode := .seq c22_0 c22_21
@[go_sem] theorem c22_0_wp (P : Program) (Q : APost) (a : AFr) (σ : ASt) : c22_0.wp P Q a σ = ACode.wp P (.ops [
    ⟨(some 2), none, .q (.mv (.v (.bool false))), []⟩]) Q a σ := id rfl
@[go_sem] theorem c22_1_wp (P : Program) (Q : APost) (a : AFr) (σ : ASt) : c22_1.wp P Q a σ = ACode.wp P (.ops [
    ⟨(some 5), none, .q (.mv (.t 0)), []⟩,
    ⟨(some 6), none, .q (.len (.t 5)), []⟩,
    ⟨(some 7), none, .q (.mv (.v (.int .i64 0))), []⟩]) Q a σ := id rfl
@[go_sem] theorem c22_2_wp (P : Program) (Q : APost) (a : AFr) (σ : ASt) : c22_2.wp P Q a σ = ACode.wp P (.ops [
    ⟨(some 8), none, .q (.bin .lss (.t 7) (.t 6)), []⟩]) Q a σ := id rfl
@[go_sem] theorem c22_3_wp (P : Program) (Q : APost) (a : AFr) (σ : ASt) : c22_3.wp P Q a σ = ACode.wp P (.cond (.t 8) .skip (.exit 0)) Q a σ := id rfl
@[go_sem] theorem c22_4_wp (P : Program) (Q : APost) (a : AFr) (σ : ASt) : c22_4.wp P Q a σ = ACode.wp P (.ops [
    ⟨(some 9), none, .q (.mv (.t 7)), []⟩,
    ⟨(some 10), none, .q (.ia 2 (.t 5) (.t 7)), []⟩,
    ⟨(some 11), none, .q (.ld (some 2) (.t 10)), []⟩,
    ⟨(some 4), none, .e (.alloc [(.int .u64 0), (.int .u64 0)]), []⟩,
    ⟨(some 3), none, .q (.mv (.t 9)), []⟩,
    ⟨none, none, .e (.store 2 (.t 4) (.t 11)), []⟩]) Q a σ := id rfl
@[go_sem] theorem c22_5_wp (P : Program) (Q : APost) (a : AFr) (σ : ASt) : c22_5.wp P Q a σ = ACode.wp P (.ops [
    ⟨(some 12), none, .q (.fa 0 (.t 4)), []⟩,
    ⟨(some 13), none, .q (.ld none (.t 12)), []⟩,
    ⟨(some 14), none, .q (.fa 1 (.t 4)), []⟩,
    ⟨(some 15), none, .q (.ld none (.t 14)), []⟩,
    ⟨(some 16), none, .q (.bin .geq (.t 13) (.t 15)), []⟩,
    ⟨(some 17), none, .q (.mv (.t 16)), []⟩,
    ⟨(some 18), (some (17, false)), .q (.mv (.t 3)), []⟩,
    ⟨(some 19), (some (17, false)), .q (.bin .gtr (.t 18) (.v (.int .i64 0))), []⟩,
    ⟨(some 20), (some (17, false)), .q (.mv (.t 19)), []⟩,
    ⟨(some 21), (some (20, true)), .q (.fa 0 (.t 4)), []⟩,
    ⟨(some 22), (some (20, true)), .q (.ld none (.t 21)), []⟩,
    ⟨(some 23), (some (20, true)), .q (.mv (.t 0)), []⟩,
    ⟨(some 24), (some (20, true)), .q (.mv (.t 3)), []⟩,
    ⟨(some 25), (some (20, true)), .q (.bin .sub (.t 24) (.v (.int .i64 1))), []⟩,
    ⟨(some 26), (some (20, true)), .q (.ia 2 (.t 23) (.t 25)), []⟩,
    ⟨(some 27), (some (20, true)), .q (.fa 1 (.t 26)), []⟩,
    ⟨(some 28), (some (20, true)), .q (.ld none (.t 27)), []⟩,
    ⟨(some 29), (some (20, true)), .q (.bin .leq (.t 22) (.t 28)), []⟩,
    ⟨(some 30), (some (17, false)), .q (.pick (.t 20) (.t 29) (.v (.bool false))), []⟩,
    ⟨(some 31), none, .q (.pick (.t 17) (.v (.bool true)) (.t 30)), []⟩]) Q a σ := id rfl
@[go_sem] theorem c22_6_wp (P : Program) (Q : APost) (a : AFr) (σ : ASt) : c22_6.wp P Q a σ = ACode.wp P (.ops [
    ⟨(some 2), none, .q (.mv (.v (.bool false))), []⟩]) Q a σ := id rfl
@[go_sem] theorem c22_7_wp (P : Program) (Q : APost) (a : AFr) (σ : ASt) : c22_7.wp P Q a σ = ACode.wp P (.seq c22_6 .ret) Q a σ := id rfl
@[go_sem] theorem c22_8_wp (P : Program) (Q : APost) (a : AFr) (σ : ASt) : c22_8.wp P Q a σ = ACode.wp P (.cond (.t 31) c22_7 .skip) Q a σ := id rfl
@[go_sem] theorem c22_9_wp (P : Program) (Q : APost) (a : AFr) (σ : ASt) : c22_9.wp P Q a σ = ACode.wp P (.seq c22_5 c22_8) Q a σ := id rfl
@[go_sem] theorem c22_10_wp (P : Program) (Q : APost) (a : AFr) (σ : ASt) : c22_10.wp P Q a σ = ACode.wp P (.seq c22_4 c22_9) Q a σ := id rfl
@[go_sem] theorem c22_11_wp (P : Program) (Q : APost) (a : AFr) (σ : ASt) : c22_11.wp P Q a σ = ACode.wp P (.block 1 c22_10) Q a σ := id rfl
@[go_sem] theorem c22_12_wp (P : Program) (Q : APost) (a : AFr) (σ : ASt) : c22_12.wp P Q a σ = ACode.wp P (.ops [
    ⟨(some 32), none, .q (.bin .add (.t 7) (.v (.int .i64 1))), []⟩,
    ⟨(some 7), none, .q (.mv (.t 32)), []⟩]) Q a σ := id rfl
@[go_sem] theorem c22_13_wp (P : Program) (Q : APost) (a : AFr) (σ : ASt) : c22_13.wp P Q a σ = ACode.wp P (.seq c22_11 c22_12) Q a σ := id rfl
@[go_sem] theorem c22_14_wp (P : Program) (Q : APost) (a : AFr) (σ : ASt) : c22_14.wp P Q a σ = ACode.wp P (.seq c22_3 c22_13) Q a σ := id rfl
@[go_sem] theorem c22_15_wp (P : Program) (Q : APost) (a : AFr) (σ : ASt) : c22_15.wp P Q a σ = ACode.wp P (.seq c22_2 c22_14) Q a σ := id rfl
@[go_sem] theorem c22_16_wp (P : Program) (Q : APost) (a : AFr) (σ : ASt) : c22_16.wp P Q a σ = ACode.wp P (.loop c22_15) Q a σ := id rfl
@[go_sem] theorem c22_17_wp (P : Program) (Q : APost) (a : AFr) (σ : ASt) : c22_17.wp P Q a σ = ACode.wp P (.block 0 c22_16) Q a σ := id rfl
@[go_sem] theorem c22_18_wp (P : Program) (Q : APost) (a : AFr) (σ : ASt) : c22_18.wp P Q a σ = ACode.wp P (.seq c22_1 c22_17) Q a σ := id rfl
@[go_sem] theorem c22_19_wp (P : Program) (Q : APost) (a : AFr) (σ : ASt) : c22_19.wp P Q a σ = ACode.wp P (.ops [
    ⟨(some 2), none, .q (.mv (.v (.bool true))), []⟩]) Q a σ := id rfl
@[go_sem] theorem c22_20_wp (P : Program) (Q : APost) (a : AFr) (σ : ASt) : c22_20.wp P Q a σ = ACode.wp P (.seq c22_19 .ret) Q a σ := id rfl
@[go_sem] theorem c22_21_wp (P : Program) (Q : APost) (a : AFr) (σ : ASt) : c22_21.wp P Q a σ = ACode.wp P (.seq c22_18 c22_20) Q a σ := id rfl
@[go_sem] theorem c22_22_wp (P : Program) (Q : APost) (a : AFr) (σ : ASt) : c22_22.wp P Q a σ = ACode.wp P (.seq c22_0 c22_21) Q a σ := id rfl
def c22 : AFn := ⟨33, [.t 2], c22_22⟩
set_option maxRecDepth 100000 in
theorem c22_ok : compF Try.prog Try.f22 = some c22 := by kernel_rfl
theorem a22 {args : List AV} {σ : ASt} {R : AV → ASt → Prop} (hl : args.length ≤ 33) (h : c22_22.wp Try.prog (RetQ [.t 2] R) (init args) σ) : ACalls Try.prog 22 args σ R := acalls_of Try.func22 c22_ok hl h

/-! 23: tabular/vint.Without -/
def c23_0 : ACode := .ops [
    ⟨(some 3), none, .e (.box (.t 1)), []⟩,
    ⟨(some 4), none, .q (.mv (.v (.sl .full []))), []⟩]
def c23_1 : ACode := .ops [
    ⟨(some 10), none, .q (.fa 0 (.t 3)), []⟩,
    ⟨(some 11), none, .q (.ld none (.t 10)), []⟩,
    ⟨(some 12), none, .q (.fa 1 (.t 3)), []⟩,
    ⟨(some 13), none, .q (.ld none (.t 12)), []⟩,
    ⟨(some 14), none, .q (.bin .geq (.t 11) (.t 13)), []⟩]
def c23_2 : ACode := .ops [
    ⟨(some 15), none, .q (.bsl 2 []), []⟩,
    ⟨(some 16), none, .q (.mv (.t 0)), []⟩,
    ⟨(some 17), none, .e (.app 2 16 [(.int .u64 0), (.int .u64 0)] (.t 15) (.t 16)), []⟩,
    ⟨(some 4), none, .q (.mv (.t 17)), []⟩]
def c23_3 : ACode := .seq c23_2 .ret
def c23_4 : ACode := .cond (.t 14) c23_3 .skip
def c23_5 : ACode := .seq c23_1 c23_4
def c23_6 : ACode := .ops [
    ⟨(some 5), none, .q (.mv (.v (.sl .full []))), []⟩]
def c23_7 : ACode := .ops [
    ⟨(some 18), none, .q (.mv (.t 0)), []⟩,
    ⟨(some 19), none, .q (.len (.t 18)), []⟩,
    ⟨(some 20), none, .q (.mv (.v (.int .i64 0))), []⟩]
def c23_8 : ACode := .ops [
    ⟨(some 21), none, .q (.bin .lss (.t 20) (.t 19)), []⟩]
def c23_9 : ACode := .cond (.t 21) .skip (.exit 0)
def c23_10 : ACode := .ops [
    ⟨(some 22), none, .q (.ia 2 (.t 18) (.t 20)), []⟩,
    ⟨(some 23), none, .q (.ld (some 2) (.t 22)), []⟩,
    ⟨(some 7), none, .e (.alloc [(.int .u64 0), (.int .u64 0)]), []⟩,
    ⟨none, none, .e (.store 2 (.t 7) (.t 23)), []⟩]
def c23_11 : ACode := .ops [
    ⟨(some 24), none, .q (.fa 0 (.t 7)), []⟩,
    ⟨(some 25), none, .q (.ld none (.t 24)), []⟩,
    ⟨(some 26), none, .q (.fa 1 (.t 7)), []⟩,
    ⟨(some 27), none, .q (.ld none (.t 26)), []⟩,
    ⟨(some 28), none, .q (.fa 0 (.t 3)), []⟩,
    ⟨(some 29), none, .q (.ld none (.t 28)), []⟩,
    ⟨(some 30), none, .q (.mnx false (.t 27) (.t 29)), []⟩,
    ⟨(some 31), none, .q (.build [(.int .u64 0), (.int .u64 0)] [(0, 1, (.t 25)), (1, 1, (.t 30))]), []⟩,
    ⟨(some 8), none, .e (.alloc [(.int .u64 0), (.int .u64 0)]), []⟩,
    ⟨none, none, .e (.store 2 (.t 8) (.t 31)), []⟩]
def c23_12 : ACode := .ops [
    ⟨(some 32), none, .q (.fa 0 (.t 8)), []⟩,
    ⟨(some 33), none, .q (.ld none (.t 32)), []⟩,
    ⟨(some 34), none, .q (.fa 1 (.t 8)), []⟩,
    ⟨(some 35), none, .q (.ld none (.t 34)), []⟩,
    ⟨(some 36), none, .q (.bin .lss (.t 33) (.t 35)), []⟩]
def c23_13 : ACode := .ops [
    ⟨(some 37), none, .q (.mv (.t 5)), []⟩,
    ⟨(some 38), none, .q (.ld (some 2) (.t 8)), []⟩,
    ⟨(some 39), none, .q (.bsl 2 [(.t 38)]), []⟩,
    ⟨(some 40), none, .e (.app 2 16 [(.int .u64 0), (.int .u64 0)] (.t 37) (.t 39)), []⟩,
    ⟨(some 5), none, .q (.mv (.t 40)), []⟩]
def c23_14 : ACode := .cond (.t 36) c23_13 .skip
def c23_15 : ACode := .seq c23_12 c23_14
def c23_16 : ACode := .seq c23_11 c23_15
def c23_17 : ACode := .ops [
    ⟨(some 41), none, .q (.fa 0 (.t 7)), []⟩,
    ⟨(some 42), none, .q (.ld none (.t 41)), []⟩,
    ⟨(some 43), none, .q (.fa 1 (.t 3)), []⟩,
    ⟨(some 44), none, .q (.ld none (.t 43)), []⟩,
    ⟨(some 45), none, .q (.mnx true (.t 42) (.t 44)), []⟩,
    ⟨(some 46), none, .q (.fa 1 (.t 7)), []⟩,
    ⟨(some 47), none, .q (.ld none (.t 46)), []⟩,
    ⟨(some 48), none, .q (.build [(.int .u64 0), (.int .u64 0)] [(0, 1, (.t 45)), (1, 1, (.t 47))]), []⟩,
    ⟨(some 9), none, .e (.alloc [(.int .u64 0), (.int .u64 0)]), []⟩,
    ⟨none, none, .e (.store 2 (.t 9) (.t 48)), []⟩]
def c23_18 : ACode := .ops [
    ⟨(some 49), none, .q (.fa 0 (.t 9)), []⟩,
    ⟨(some 50), none, .q (.ld none (.t 49)), []⟩,
    ⟨(some 51), none, .q (.fa 1 (.t 9)), []⟩,
    ⟨(some 52), none, .q (.ld none (.t 51)), []⟩,
    ⟨(some 53), none, .q (.bin .lss (.t 50) (.t 52)), []⟩]
def c23_19 : ACode := .ops [
    ⟨(some 54), none, .q (.mv (.t 5)), []⟩,
    ⟨(some 55), none, .q (.ld (some 2) (.t 9)), []⟩,
    ⟨(some 56), none, .q (.bsl 2 [(.t 55)]), []⟩,
    ⟨(some 57), none, .e (.app 2 16 [(.int .u64 0), (.int .u64 0)] (.t 54) (.t 56)), []⟩,
    ⟨(some 5), none, .q (.mv (.t 57)), []⟩]
def c23_20 : ACode := .cond (.t 53) c23_19 .skip
def c23_21 : ACode := .seq c23_18 c23_20
def c23_22 : ACode := .seq c23_17 c23_21
def c23_23 : ACode := .seq c23_16 c23_22
def c23_24 : ACode := .seq c23_10 c23_23
def c23_25 : ACode := .block 1 c23_24
def c23_26 : ACode := .ops [
    ⟨(some 58), none, .q (.bin .add (.t 20) (.v (.int .i64 1))), []⟩,
    ⟨(some 20), none, .q (.mv (.t 58)), []⟩]
def c23_27 : ACode := .seq c23_25 c23_26
def c23_28 : ACode := .seq c23_9 c23_27
def c23_29 : ACode := .seq c23_8 c23_28
def c23_30 : ACode := .loop c23_29
def c23_31 : ACode := .block 0 c23_30
def c23_32 : ACode := .seq c23_7 c23_31
def c23_33 : ACode := .ops [
    ⟨(some 59), none, .q (.mv (.t 5)), []⟩,
    ⟨(some 4), none, .q (.mv (.t 59)), []⟩]
def c23_34 : ACode := .seq c23_33 .ret
def c23_35 : ACode := .seq c23_32 c23_34
def c23_36 : ACode := .seq c23_6 c23_35
def c23_37 : ACode := .seq c23_5 c23_36
def c23_38 : ACode := .seq c23_0 c23_37
@[go_sem] theorem c23_0_wp (P : Program) (Q : APost) (a : AFr) (σ : ASt) : c23_0.wp P Q a σ = ACode.wp P (.ops [
    ⟨(some 3), none, .e (.box (.t 1)), []⟩,
    ⟨(some 4), none, .q (.mv (.v (.sl .full []))), []⟩]) Q a σ := id rfl
@[go_sem] theorem c23_1_wp (P : Program) (Q : APost) (a : AFr) (σ : ASt) : c23_1.wp P Q a σ = ACode.wp P (.ops [
    ⟨(some 10), none, .q (.fa 0 (.t 3)), []⟩,
    ⟨(some 11), none, .q (.ld none (.t 10)), []⟩,
    ⟨(some 12), none, .q (.fa 1 (.t 3)), []⟩,
    ⟨(some 13), none, .q (.ld none (.t 12)), []⟩,
    ⟨(some 14), none, .q (.bin .geq (.t 11) (.t 13)), []⟩]) Q a σ := id rfl
@[go_sem] theorem c23_2_wp (P : Program) (Q : APost) (a : AFr) (σ : ASt) : c23_2.wp P Q a σ = ACode.wp P (.ops [
    ⟨(some 15), none, .q (.bsl 2 []), []⟩,
    ⟨(some 16), none, .q (.mv (.t 0)), []⟩,
    ⟨(some 17), none, .e (.app 2 16 [(.int .u64 0), (.int .u64 0)] (.t 15) (.t 16)), []⟩,
    ⟨(some 4), none, .q (.mv (.t 17)), []⟩]) Q a σ := id rfl
@[go_sem] theorem c23_3_wp (P : Program) (Q : APost) (a : AFr) (σ : ASt) : c23_3.wp P Q a σ = ACode.wp P (.seq c23_2 .ret) Q a σ := id rfl
@[go_sem] theorem c23_4_wp (P : Program) (Q : APost) (a : AFr) (σ : ASt) : c23_4.wp P Q a σ = ACode.wp P (.cond (.t 14) c23_3 .skip) Q a σ := id rfl
@[go_sem] theorem c23_5_wp (P : Program) (Q : APost) (a : AFr) (σ : ASt) : c23_5.wp P Q a σ = ACode.wp P (.seq c23_1 c23_4) Q a σ := id rfl
@[go_sem] theorem c23_6_wp (P : Program) (Q : APost) (a : AFr) (σ : ASt) : c23_6.wp P Q a σ = ACode.wp P (.ops [
    ⟨(some 5), none, .q (.mv (.v (.sl .full []))), []⟩]) Q a σ := id rfl
@[go_sem] theorem c23_7_wp (P : Program) (Q : APost) (a : AFr) (σ : ASt) : c23_7.wp P Q a σ = ACode.wp P (.ops [
    ⟨(some 18), none, .q (.mv (.t 0)), []⟩,
    ⟨(some 19), none, .q (.len (.t 18)), []⟩,
    ⟨(some 20), none, .q (.mv (.v (.int .i64 0))), []⟩]) Q a σ := id rfl
@[go_sem] theorem c23_8_wp (P : Program) (Q : APost) (a : AFr) (σ : ASt) : c23_8.wp P Q a σ = ACode.wp P (.ops [
    ⟨(some 21), none, .q (.bin .lss (.t 20) (.t 19)), []⟩]) Q a σ := id rfl
@[go_sem] theorem c23_9_wp (P : Program) (Q : APost) (a : AFr) (σ : ASt) : c23_9.wp P Q a σ = ACode.wp P (.cond (.t 21) .skip (.exit 0)) Q a σ := id rfl
@[go_sem] theorem c23_10_wp (P : Program) (Q : APost) (a : AFr) (σ : ASt) : c23_10.wp P Q a σ = ACode.wp P (.ops [
    ⟨(some 22), none, .q (.ia 2 (.t 18) (.t 20)), []⟩,
    ⟨(some 23), none, .q (.ld (some 2) (.t 22)), []⟩,
    ⟨(some 7), none, .e (.alloc [(.int .u64 0), (.int .u64 0)]), []⟩,
    ⟨none, none, .e (.store 2 (.t 7) (.t 23)), []⟩]) Q a σ := id rfl
@[go_sem] theorem c23_11_wp (P : Program) (Q : APost) (a : AFr) (σ : ASt) : c23_11.wp P Q a σ = ACode.wp P (.ops [
    ⟨(some 24), none, .q (.fa 0 (.t 7)), []⟩,
    ⟨(some 25), none, .q (.ld none (.t 24)), []⟩,
    ⟨(some 26), none, .q (.fa 1 (.t 7)), []⟩,
    ⟨(some 27), none, .q (.ld none (.t 26)), []⟩,
    ⟨(some 28), none, .q (.fa 0 (.t 3)), []⟩,
    ⟨(some 29), none, .q (.ld none (.t 28)), []⟩,
    ⟨(some 30), none, .q (.mnx false (.t 27) (.t 29)), []⟩,
    ⟨(some 31), none, .q (.build [(.int .u64 0), (.int .u64 0)] [(0, 1, (.t 25)), (1, 1, (.t 30))]), []⟩,
    ⟨(some 8), none, .e (.alloc [(.int .u64 0), (.int .u64 0)]), []⟩,
    ⟨none, none, .e (.store 2 (.t 8) (.t 31)), []⟩]) Q a σ := id rfl
@[go_sem] theorem c23_12_wp (P : Program) (Q : APost) (a : AFr) (σ : ASt) : c23_12.wp P Q a σ = ACode.wp P (.ops [
    ⟨(some 32), none, .q (.fa 0 (.t 8)), []⟩,
    ⟨(some 33), none, .q (.ld none (.t 32)), []⟩,
    ⟨(some 34), none, .q (.fa 1 (.t 8)), []⟩,
    ⟨(some 35), none, .q (.ld none (.t 34)), []⟩,
    ⟨(some 36), none, .q (.bin .lss (.t 33) (.t 35)), []⟩]) Q a σ := id rfl
@[go_sem] theorem c23_13_wp (P : Program) (Q : APost) (a : AFr) (σ : ASt) : c23_13.wp P Q a σ = ACode.wp P (.ops [
    ⟨(some 37), none, .q (.mv (.t 5)), []⟩,
    ⟨(some 38), none, .q (.ld (some 2) (.t 8)), []⟩,
    ⟨(some 39), none, .q (.bsl 2 [(.t 38)]), []⟩,
    ⟨(some 40), none, .e (.app 2 16 [(.int .u64 0), (.int .u64 0)] (.t 37) (.t 39)), []⟩,
    ⟨(some 5), none, .q (.mv (.t 40)), []⟩]) Q a σ := id rfl
@[go_sem] theorem c23_14_wp (P : Program) (Q : APost) (a : AFr) (σ : ASt) : c23_14.wp P Q a σ = ACode.wp P (.cond (.t 36) c23_13 .skip) Q a σ := id rfl
@[go_sem] theorem c23_15_wp (P : Program) (Q : APost) (a : AFr) (σ : ASt) : c23_15.wp P Q a σ = ACode.wp P (.seq c23_12 c23_14) Q a σ := id rfl
@[go_sem] theorem c23_16_wp (P : Program) (Q : APost) (a : AFr) (σ : ASt) : c23_16.wp P Q a σ = ACode.wp P (.seq c23_11 c23_15) Q a σ := id rfl
@[go_sem] theorem c23_17_wp (P : Program) (Q : APost) (a : AFr) (σ : ASt) : c23_17.wp P Q a σ = ACode.wp P (.ops [
    ⟨(some 41), none, .q (.fa 0 (.t 7)), []⟩,
    ⟨(some 42), none, .q (.ld none (.t 41)), []⟩,
    ⟨(some 43), none, .q (.fa 1 (.t 3)), []⟩,
    ⟨(some 44), none, .q (.ld none (.t 43)), []⟩,
    ⟨(some 45), none, .q (.mnx true (.t 42) (.t 44)), []⟩,
    ⟨(some 46), none, .q (.fa 1 (.t 7)), []⟩,
    ⟨(some 47), none, .q (.ld none (.t 46)), []⟩,
    ⟨(some 48), none, .q (.build [(.int .u64 0), (.int .u64 0)] [(0, 1, (.t 45)), (1, 1, (.t 47))]), []⟩,
    ⟨(some 9), none, .e (.alloc [(.int .u64 0), (.int .u64 0)]), []⟩,
    ⟨none, none, .e (.store 2 (.t 9) (.t 48)), []⟩]) Q a σ := id rfl
@[go_sem] theorem c23_18_wp (P : Program) (Q : APost) (a : AFr) (σ : ASt) : c23_18.wp P Q a σ = ACode.wp P (.ops [
    ⟨(some 49), none, .q (.fa 0 (.t 9)), []⟩,
    ⟨(some 50), none, .q (.ld none (.t 49)), []⟩,
    ⟨(some 51), none, .q (.fa 1 (.t 9)), []⟩,
    ⟨(some 52), none, .q (.ld none (.t 51)), []⟩,
    ⟨(some 53), none, .q (.bin .lss (.t 50) (.t 52)), []⟩]) Q a σ := id rfl
@[go_sem] theorem c23_19_wp (P : Program) (Q : APost) (a : AFr) (σ : ASt) : c23_19.wp P Q a σ = ACode.wp P (.ops [
    ⟨(some 54), none, .q (.mv (.t 5)), []⟩,
    ⟨(some 55), none, .q (.ld (some 2) (.t 9)), []⟩,
    ⟨(some 56), none, .q (.bsl 2 [(.t 55)]), []⟩,
    ⟨(some 57), none, .e (.app 2 16 [(.int .u64 0), (.int .u64 0)] (.t 54) (.t 56)), []⟩,
    ⟨(some 5), none, .q (.mv (.t 57)), []⟩]) Q a σ := id rfl
@[go_sem] theorem c23_20_wp (P : Program) (Q : APost) (a : AFr) (σ : ASt) : c23_20.wp P Q a σ = ACode.wp P (.cond (.t 53) c23_19 .skip) Q a σ := id rfl
@[go_sem] theorem c23_21_wp (P : Program) (Q : APost) (a : AFr) (σ : ASt) : c23_21.wp P Q a σ = ACode.wp P (.seq c23_18 c23_20) Q a σ := id rfl
@[go_sem] theorem c23_22_wp (P : Program) (Q : APost) (a : AFr) (σ : ASt) : c23_22.wp P Q a σ = ACode.wp P (.seq c23_17 c23_21) Q a σ := id rfl
@[go_sem] theorem c23_23_wp (P : Program) (Q : APost) (a : AFr) (σ : ASt) : c23_23.wp P Q a σ = ACode.wp P (.seq c23_16 c23_22) Q a σ := id rfl
@[go_sem] theorem c23_24_wp (P : Program) (Q : APost) (a : AFr) (σ : ASt) : c23_24.wp P Q a σ = ACode.wp P (.seq c23_10 c23_23) Q a σ := id rfl
@[go_sem] theorem c23_25_wp (P : Program) (Q : APost) (a : AFr) (σ : ASt) : c23_25.wp P Q a σ = ACode.wp P (.block 1 c23_24) Q a σ := id rfl
@[go_sem] theorem c23_26_wp (P : Program) (Q : APost) (a : AFr) (σ : ASt) : c23_26.wp P Q a σ = ACode.wp P (.ops [
    ⟨(some 58), none, .q (.bin .add (.t 20) (.v (.int .i64 1))), []⟩,
    ⟨(some 20), none, .q (.mv (.t 58)), []⟩]) Q a σ := id rfl
@[go_sem] theorem c23_27_wp (P : Program) (Q : APost) (a : AFr) (σ : ASt) : c23_27.wp P Q a σ = ACode.wp P (.seq c23_25 c23_26) Q a σ := id rfl
@[go_sem] theorem c23_28_wp (P : Program) (Q : APost) (a : AFr) (σ : ASt) : c23_28.wp P Q a σ = ACode.wp P (.seq c23_9 c23_27) Q a σ := id rfl
@[go_sem] theorem c23_29_wp (P : Program) (Q : APost) (a : AFr) (σ : ASt) : c23_29.wp P Q a σ = ACode.wp P (.seq c23_8 c23_28) Q a σ := id rfl
@[go_sem] theorem c23_30_wp (P : Program) (Q : APost) (a : AFr) (σ : ASt) : c23_30.wp P Q a σ = ACode.wp P (.loop c23_29) Q a σ := id rfl
@[go_sem] theorem c23_31_wp (P : Program) (Q : APost) (a : AFr) (σ : ASt) : c23_31.wp P Q a σ = ACode.wp P (.block 0 c23_30) Q a σ := id rfl
@[go_sem] theorem c23_32_wp (P : Program) (Q : APost) (a : AFr) (σ : ASt) : c23_32.wp P Q a σ = ACode.wp P (.seq c23_7 c23_31) Q a σ := id rfl
@[go_sem] theorem c23_33_wp (P : Program) (Q : APost) (a : AFr) (σ : ASt) : c23_33.wp P Q a σ = ACode.wp P (.ops [
    ⟨(some 59), none, .q (.mv (.t 5)), []⟩,
    ⟨(some 4), none, .q (.mv (.t 59)), []⟩]) Q a σ := id rfl
@[go_sem] theorem c23_34_wp (P : Program) (Q : APost) (a : AFr) (σ : ASt) : c23_34.wp P Q a σ = ACode.wp P (.seq c23_33 .ret) Q a σ := id rfl
@[go_sem] theorem c23_35_wp (P : Program) (Q : APost) (a : AFr) (σ : ASt) : c23_35.wp P Q a σ = ACode.wp P (.seq c23_32 c23_34) Q a σ := id rfl
@[go_sem] theorem c23_36_wp (P : Program) (Q : APost) (a : AFr) (σ : ASt) : c23_36.wp P Q a σ = ACode.wp P (.seq c23_6 c23_35) Q a σ := id rfl
@[go_sem] theorem c23_37_wp (P : Program) (Q : APost) (a : AFr) (σ : ASt) : c23_37.wp P Q a σ = ACode.wp P (.seq c23_5 c23_36) Q a σ := id rfl
@[go_sem] theorem c23_38_wp (P : Program) (Q : APost) (a : AFr) (σ : ASt) : c23_38.wp P Q a σ = ACode.wp P (.seq c23_0 c23_37) Q a σ := id rfl
def c23 : AFn := ⟨60, [.t 4], c23_38⟩
set_option maxRecDepth 100000 in
theorem c23_ok : compF Try.prog Try.f23 = some c23 := by kernel_rfl
theorem a23 {args : List AV} {σ : ASt} {R : AV → ASt → Prop} (hl : args.length ≤ 60) (h : c23_38.wp Try.prog (RetQ [.t 4] R) (init args) σ) : ACalls Try.prog 23 args σ R := acalls_of Try.func23 c23_ok hl h

/-! 24: tabular/tabularlaw02.rising -/
def c24_0 : ACode := .ops [
    ⟨(some 2), none, .q (.mv (.v (.sl .full []))), []⟩]
def c24_1 : ACode := .ops [
    ⟨(some 5), none, .q (.bsl 1 []), []⟩,
    ⟨(some 3), none, .q (.mv (.t 5)), []⟩]
def c24_2 : ACode := .ops [
    ⟨(some 4), none, .q (.mv (.v (.int .i64 0))), []⟩]
def c24_3 : ACode := .ops [
    ⟨(some 6), none, .q (.mv (.t 4)), []⟩,
    ⟨(some 7), none, .q (.mv (.t 0)), []⟩,
    ⟨(some 8), none, .q (.len (.t 7)), []⟩,
    ⟨(some 9), none, .q (.bin .lss (.t 6) (.t 8)), []⟩,
    ⟨(some 10), none, .q (.mv (.t 9)), []⟩,
    ⟨(some 11), (some (10, true)), .q (.mv (.t 4)), []⟩,
    ⟨(some 12), (some (10, true)), .q (.bin .lss (.t 11) (.v (.int .i64 20))), []⟩,
    ⟨(some 13), none, .q (.pick (.t 10) (.t 12) (.v (.bool false))), []⟩]
def c24_4 : ACode := .cond (.t 13) .skip (.exit 0)
def c24_5 : ACode := .seq c24_3 c24_4
def c24_6 : ACode := .ops [
    ⟨(some 16), none, .q (.mv (.t 3)), []⟩,
    ⟨(some 17), none, .q (.len (.t 16)), []⟩,
    ⟨(some 18), none, .q (.bin .eql (.t 17) (.v (.int .i64 0))), []⟩,
    ⟨(some 19), none, .q (.mv (.t 18)), []⟩,
    ⟨(some 20), (some (19, false)), .q (.mv (.t 0)), []⟩,
    ⟨(some 21), (some (19, false)), .q (.mv (.t 4)), []⟩,
    ⟨(some 22), (some (19, false)), .q (.ia 1 (.t 20) (.t 21)), []⟩,
    ⟨(some 23), (some (19, false)), .q (.ld none (.t 22)), []⟩,
    ⟨(some 24), (some (19, false)), .q (.mv (.t 3)), []⟩,
    ⟨(some 25), (some (19, false)), .q (.mv (.t 3)), []⟩,
    ⟨(some 26), (some (19, false)), .q (.len (.t 25)), []⟩,
    ⟨(some 27), (some (19, false)), .q (.bin .sub (.t 26) (.v (.int .i64 1))), []⟩,
    ⟨(some 28), (some (19, false)), .q (.ia 1 (.t 24) (.t 27)), []⟩,
    ⟨(some 29), (some (19, false)), .q (.ld none (.t 28)), []⟩,
    ⟨(some 30), (some (19, false)), .q (.bin .gtr (.t 23) (.t 29)), []⟩,
    ⟨(some 31), none, .q (.pick (.t 19) (.v (.bool true)) (.t 30)), []⟩]
def c24_7 : ACode := .ops [
    ⟨(some 32), none, .q (.mv (.t 3)), []⟩,
    ⟨(some 33), none, .q (.mv (.t 0)), []⟩,
    ⟨(some 34), none, .q (.mv (.t 4)), []⟩,
    ⟨(some 35), none, .q (.ia 1 (.t 33) (.t 34)), []⟩,
    ⟨(some 36), none, .q (.ld none (.t 35)), []⟩,
    ⟨(some 37), none, .q (.bsl 1 [(.t 36)]), []⟩,
    ⟨(some 38), none, .e (.app 1 8 [(.int .u64 0)] (.t 32) (.t 37)), []⟩,
    ⟨(some 3), none, .q (.mv (.t 38)), []⟩]
def c24_8 : ACode := .cond (.t 31) c24_7 .skip
def c24_9 : ACode := .seq c24_6 c24_8
def c24_10 : ACode := .block 1 c24_9
def c24_11 : ACode := .ops [
    ⟨(some 14), none, .q (.mv (.t 4)), []⟩,
    ⟨(some 15), none, .q (.bin .add (.t 14) (.v (.int .i64 1))), []⟩,
    ⟨(some 4), none, .q (.mv (.t 15)), []⟩]
def c24_12 : ACode := .seq c24_10 c24_11
def c24_13 : ACode := .seq c24_5 c24_12
def c24_14 : ACode := .loop c24_13
def c24_15 : ACode := .block 0 c24_14
def c24_16 : ACode := .seq c24_2 c24_15
def c24_17 : ACode := .ops [
    ⟨(some 39), none, .q (.mv (.t 3)), []⟩,
    ⟨(some 2), none, .q (.mv (.t 39)), []⟩]
def c24_18 : ACode := .seq c24_17 .ret
def c24_19 : ACode := .seq c24_16 c24_18
def c24_20 : ACode := .seq c24_1 c24_19
def c24_21 : ACode := .seq c24_0 c24_20
@[go_sem] theorem c24_0_wp (P : Program) (Q : APost) (a : AFr) (σ : ASt) : c24_0.wp P Q a σ = ACode.wp P (.ops [
    ⟨(some 2), none, .q (.mv (.v (.sl .full []))), []⟩]) Q a σ := id rfl
@[go_sem] theorem c24_1_wp (P : Program) (Q : APost) (a : AFr) (σ : ASt) : c24_1.wp P Q a σ = ACode.wp P (.ops [
    ⟨(some 5), none, .q (.bsl 1 []), []⟩,
    ⟨(some 3), none, .q (.mv (.t 5)), []⟩]) Q a σ := id rfl
@[go_sem] theorem c24_2_wp (P : Program) (Q : APost) (a : AFr) (σ : ASt) : c24_2.wp P Q a σ = ACode.wp P (.ops [
    ⟨(some 4), none, .q (.mv (.v (.int .i64 0))), []⟩]) Q a σ := id rfl
@[go_sem] theorem c24_3_wp (P : Program) (Q : APost) (a : AFr) (σ : ASt) : c24_3.wp P Q a σ = ACode.wp P (.ops [
    ⟨(some 6), none, .q (.mv (.t 4)), []⟩,
    ⟨(some 7), none, .q (.mv (.t 0)), []⟩,
    ⟨(some 8), none, .q (.len (.t 7)), []⟩,
    ⟨(some 9), none, .q (.bin .lss (.t 6) (.t 8)), []⟩,
    ⟨(some 10), none, .q (.mv (.t 9)), []⟩,
    ⟨(some 11), (some (10, true)), .q (.mv (.t 4)), []⟩,
    ⟨(some 12), (some (10, true)), .q (.bin .lss (.t 11) (.v (.int .i64 20))), []⟩,
    ⟨(some 13), none, .q (.pick (.t 10) (.t 12) (.v (.bool false))), []⟩]) Q a σ := id rfl
@[go_sem] theorem c24_4_wp (P : Program) (Q : APost) (a : AFr) (σ : ASt) : c24_4.wp P Q a σ = ACode.wp P (.cond (.t 13) .skip (.exit 0)) Q a σ := id rfl
@[go_sem] theorem c24_5_wp (P : Program) (Q : APost) (a : AFr) (σ : ASt) : c24_5.wp P Q a σ = ACode.wp P (.seq c24_3 c24_4) Q a σ := id rfl
@[go_sem] theorem c24_6_wp (P : Program) (Q : APost) (a : AFr) (σ : ASt) : c24_6.wp P Q a σ = ACode.wp P (.ops [
    ⟨(some 16), none, .q (.mv (.t 3)), []⟩,
    ⟨(some 17), none, .q (.len (.t 16)), []⟩,
    ⟨(some 18), none, .q (.bin .eql (.t 17) (.v (.int .i64 0))), []⟩,
    ⟨(some 19), none, .q (.mv (.t 18)), []⟩,
    ⟨(some 20), (some (19, false)), .q (.mv (.t 0)), []⟩,
    ⟨(some 21), (some (19, false)), .q (.mv (.t 4)), []⟩,
    ⟨(some 22), (some (19, false)), .q (.ia 1 (.t 20) (.t 21)), []⟩,
    ⟨(some 23), (some (19, false)), .q (.ld none (.t 22)), []⟩,
    ⟨(some 24), (some (19, false)), .q (.mv (.t 3)), []⟩,
    ⟨(some 25), (some (19, false)), .q (.mv (.t 3)), []⟩,
    ⟨(some 26), (some (19, false)), .q (.len (.t 25)), []⟩,
    ⟨(some 27), (some (19, false)), .q (.bin .sub (.t 26) (.v (.int .i64 1))), []⟩,
    ⟨(some 28), (some (19, false)), .q (.ia 1 (.t 24) (.t 27)), []⟩,
    ⟨(some 29), (some (19, false)), .q (.ld none (.t 28)), []⟩,
    ⟨(some 30), (some (19, false)), .q (.bin .gtr (.t 23) (.t 29)), []⟩,
    ⟨(some 31), none, .q (.pick (.t 19) (.v (.bool true)) (.t 30)), []⟩]) Q a σ := id rfl
@[go_sem] theorem c24_7_wp (P : Program) (Q : APost) (a : AFr) (σ : ASt) : c24_7.wp P Q a σ = ACode.wp P (.ops [
    ⟨(some 32), none, .q (.mv (.t 3)), []⟩,
    ⟨(some 33), none, .q (.mv (.t 0)), []⟩,
    ⟨(some 34), none, .q (.mv (.t 4)), []⟩,
    ⟨(some 35), none, .q (.ia 1 (.t 33) (.t 34)), []⟩,
    ⟨(some 36), none, .q (.ld none (.t 35)), []⟩,
    ⟨(some 37), none, .q (.bsl 1 [(.t 36)]), []⟩,
    ⟨(some 38), none, .e (.app 1 8 [(.int .u64 0)] (.t 32) (.t 37)), []⟩,
    ⟨(some 3), none, .q (.mv (.t 38)), []⟩]) Q a σ := id rfl
@[go_sem] theorem c24_8_wp (P : Program) (Q : APost) (a : AFr) (σ : ASt) : c24_8.wp P Q a σ = ACode.wp P (.cond (.t 31) c24_7 .skip) Q a σ := id rfl
@[go_sem] theorem c24_9_wp (P : Program) (Q : APost) (a : AFr) (σ : ASt) : c24_9.wp P Q a σ = ACode.wp P (.seq c24_6 c24_8) Q a σ := id rfl
@[go_sem] theorem c24_10_wp (P : Program) (Q : APost) (a : AFr) (σ : ASt) : c24_10.wp P Q a σ = ACode.wp P (.block 1 c24_9) Q a σ := id rfl
@[go_sem] theorem c24_11_wp (P : Program) (Q : APost) (a : AFr) (σ : ASt) : c24_11.wp P Q a σ = ACode.wp P (.ops [
    ⟨(some 14), none, .q (.mv (.t 4)), []⟩,
    ⟨(some 15), none, .q (.bin .add (.t 14) (.v (.int .i64 1))), []⟩,
    ⟨(some 4), none, .q (.mv (.t 15)), []⟩]) Q a σ := id rfl
@[go_sem] theorem c24_12_wp (P : Program) (Q : APost) (a : AFr) (σ : ASt) : c24_12.wp P Q a σ = ACode.wp P (.seq c24_10 c24_11) Q a σ := id rfl
@[go_sem] theorem c24_13_wp (P : Program) (Q : APost) (a : AFr) (σ : ASt) : c24_13.wp P Q a σ = ACode.wp P (.seq c24_5 c24_12) Q a σ := id rfl
@[go_sem] theorem c24_14_wp (P : Program) (Q : APost) (a : AFr) (σ : ASt) : c24_14.wp P Q a σ = ACode.wp P (.loop c24_13) Q a σ := id rfl
@[go_sem] theorem c24_15_wp (P : Program) (Q : APost) (a : AFr) (σ : ASt) : c24_15.wp P Q a σ = ACode.wp P (.block 0 c24_14) Q a σ := id rfl
@[go_sem] theorem c24_16_wp (P : Program) (Q : APost) (a : AFr) (σ : ASt) : c24_16.wp P Q a σ = ACode.wp P (.seq c24_2 c24_15) Q a σ := id rfl
@[go_sem] theorem c24_17_wp (P : Program) (Q : APost) (a : AFr) (σ : ASt) : c24_17.wp P Q a σ = ACode.wp P (.ops [
    ⟨(some 39), none, .q (.mv (.t 3)), []⟩,
    ⟨(some 2), none, .q (.mv (.t 39)), []⟩]) Q a σ := id rfl
@[go_sem] theorem c24_18_wp (P : Program) (Q : APost) (a : AFr) (σ : ASt) : c24_18.wp P Q a σ = ACode.wp P (.seq c24_17 .ret) Q a σ := id rfl
@[go_sem] theorem c24_19_wp (P : Program) (Q : APost) (a : AFr) (σ : ASt) : c24_19.wp P Q a σ = ACode.wp P (.seq c24_16 c24_18) Q a σ := id rfl
@[go_sem] theorem c24_20_wp (P : Program) (Q : APost) (a : AFr) (σ : ASt) : c24_20.wp P Q a σ = ACode.wp P (.seq c24_1 c24_19) Q a σ := id rfl
@[go_sem] theorem c24_21_wp (P : Program) (Q : APost) (a : AFr) (σ : ASt) : c24_21.wp P Q a σ = ACode.wp P (.seq c24_0 c24_20) Q a σ := id rfl
def c24 : AFn := ⟨40, [.t 2], c24_21⟩
set_option maxRecDepth 100000 in
theorem c24_ok : compF Try.prog Try.f24 = some c24 := by kernel_rfl
theorem a24 {args : List AV} {σ : ASt} {R : AV → ASt → Prop} (hl : args.length ≤ 40) (h : c24_21.wp Try.prog (RetQ [.t 2] R) (init args) σ) : ACalls Try.prog 24 args σ R := acalls_of Try.func24 c24_ok hl h

/-! 25: tabular/tabularref02.Has -/
def c25_0 : ACode := .ops [
    ⟨(some 4), none, .q (.mv (.v (.bool false))), []⟩]
def c25_1 : ACode := .ops [
    ⟨(some 7), none, .q (.mv (.t 0)), []⟩,
    ⟨(some 8), none, .q (.len (.t 7)), []⟩,
    ⟨(some 9), none, .q (.mv (.v (.int .i64 0))), []⟩]
def c25_2 : ACode := .ops [
    ⟨(some 10), none, .q (.bin .lss (.t 9) (.t 8)), []⟩]
def c25_3 : ACode := .cond (.t 10) .skip (.exit 0)
def c25_4 : ACode := .ops [
    ⟨(some 11), none, .q (.ia 2 (.t 7) (.t 9)), []⟩,
    ⟨(some 12), none, .q (.ld (some 2) (.t 11)), []⟩,
    ⟨(some 6), none, .e (.alloc [(.int .u64 0), (.int .u64 0)]), []⟩,
    ⟨none, none, .e (.store 2 (.t 6) (.t 12)), []⟩]
def c25_5 : ACode := .ops [
    ⟨(some 13), none, .q (.fa 0 (.t 6)), []⟩,
    ⟨(some 14), none, .q (.ld none (.t 13)), []⟩,
    ⟨(some 15), none, .q (.mv (.t 1)), []⟩,
    ⟨(some 16), none, .q (.bin .leq (.t 14) (.t 15)), []⟩,
    ⟨(some 17), none, .q (.mv (.t 16)), []⟩,
    ⟨(some 18), (some (17, true)), .q (.mv (.t 1)), []⟩,
    ⟨(some 19), (some (17, true)), .q (.fa 1 (.t 6)), []⟩,
    ⟨(some 20), (some (17, true)), .q (.ld none (.t 19)), []⟩,
    ⟨(some 21), (some (17, true)), .q (.bin .lss (.t 18) (.t 20)), []⟩,
    ⟨(some 22), none, .q (.pick (.t 17) (.t 21) (.v (.bool false))), []⟩]
def c25_6 : ACode := .ops [
    ⟨(some 4), none, .q (.mv (.v (.bool true))), []⟩]
def c25_7 : ACode := .seq c25_6 .ret
def c25_8 : ACode := .cond (.t 22) c25_7 .skip
def c25_9 : ACode := .seq c25_5 c25_8
def c25_10 : ACode := .seq c25_4 c25_9
def c25_11 : ACode := .block 1 c25_10
def c25_12 : ACode := .ops [
    ⟨(some 23), none, .q (.bin .add (.t 9) (.v (.int .i64 1))), []⟩,
    ⟨(some 9), none, .q (.mv (.t 23)), []⟩]
def c25_13 : ACode := .seq c25_11 c25_12
def c25_14 : ACode := .seq c25_3 c25_13
def c25_15 : ACode := .seq c25_2 c25_14
def c25_16 : ACode := .loop c25_15
def c25_17 : ACode := .block 0 c25_16
def c25_18 : ACode := .seq c25_1 c25_17
def c25_19 : ACode := .ops [
    ⟨(some 4), none, .q (.mv (.v (.bool false))), []⟩]
def c25_20 : ACode := .seq c25_19 .ret
def c25_21 : ACode := .seq c25_18 c25_20
def c25_22 : ACode := .seq c25_0 c25_21
@[go_sem] theorem c25_0_wp (P : Program) (Q : APost) (a : AFr) (σ : ASt) : c25_0.wp P Q a σ = ACode.wp P (.ops [
    ⟨(some 4), none, .q (.mv (.v (.bool false))), []⟩]) Q a σ := id rfl
@[go_sem] theorem c25_1_wp (P : Program) (Q : APost) (a : AFr) (σ : ASt) : c25_1.wp P Q a σ = ACode.wp P (.ops [
    ⟨(some 7), none, .q (.mv (.t 0)), []⟩,
    ⟨(some 8), none, .q (.len (.t 7)), []⟩,
    ⟨(some 9), none, .q (.mv (.v (.int .i64 0))), []⟩]) Q a σ := id rfl
@[go_sem] theorem c25_2_wp (P : Program) (Q : APost) (a : AFr) (σ : ASt) : c25_2.wp P Q a σ = ACode.wp P (.ops [
    ⟨(some 10), none, .q (.bin .lss (.t 9) (.t 8)), []⟩]) Q a σ := id rfl
@[go_sem] theorem c25_3_wp (P : Program) (Q : APost) (a : AFr) (σ : ASt) : c25_3.wp P Q a σ = ACode.wp P (.cond (.t 10) .skip (.exit 0)) Q a σ := id rfl
@[go_sem] theorem c25_4_wp (P : Program) (Q : APost) (a : AFr) (σ : ASt) : c25_4.wp P Q a σ = ACode.wp P (.ops [
    ⟨(some 11), none, .q (.ia 2 (.t 7) (.t 9)), []⟩,
    ⟨(some 12), none, .q (.ld (some 2) (.t 11)), []⟩,
    ⟨(some 6), none, .e (.alloc [(.int .u64 0), (.int .u64 0)]), []⟩,
    ⟨none, none, .e (.store 2 (.t 6) (.t 12)), []⟩]) Q a σ := id rfl
@[go_sem] theorem c25_5_wp (P : Program) (Q : APost) (a : AFr) (σ : ASt) : c25_5.wp P Q a σ = ACode.wp P (.ops [
    ⟨(some 13), none, .q (.fa 0 (.t 6)), []⟩,
    ⟨(some 14), none, .q (.ld none (.t 13)), []⟩,
    ⟨(some 15), none, .q (.mv (.t 1)), []⟩,
    ⟨(some 16), none, .q (.bin .leq (.t 14) (.t 15)), []⟩,
    ⟨(some 17), none, .q (.mv (.t 16)), []⟩,
    ⟨(some 18), (some (17, true)), .q (.mv (.t 1)), []⟩,
    ⟨(some 19), (some (17, true)), .q (.fa 1 (.t 6)), []⟩,
    ⟨(some 20), (some (17, true)), .q (.ld none (.t 19)), []⟩,
    ⟨(some 21), (some (17, true)), .q (.bin .lss (.t 18) (.t 20)), []⟩,
    ⟨(some 22), none, .q (.pick (.t 17) (.t 21) (.v (.bool false))), []⟩]) Q a σ := id rfl
@[go_sem] theorem c25_6_wp (P : Program) (Q : APost) (a : AFr) (σ : ASt) : c25_6.wp P Q a σ = ACode.wp P (.ops [
    ⟨(some 4), none, .q (.mv (.v (.bool true))), []⟩]) Q a σ := id rfl
@[go_sem] theorem c25_7_wp (P : Program) (Q : APost) (a : AFr) (σ : ASt) : c25_7.wp P Q a σ = ACode.wp P (.seq c25_6 .ret) Q a σ := id rfl
@[go_sem] theorem c25_8_wp (P : Program) (Q : APost) (a : AFr) (σ : ASt) : c25_8.wp P Q a σ = ACode.wp P (.cond (.t 22) c25_7 .skip) Q a σ := id rfl
@[go_sem] theorem c25_9_wp (P : Program) (Q : APost) (a : AFr) (σ : ASt) : c25_9.wp P Q a σ = ACode.wp P (.seq c25_5 c25_8) Q a σ := id rfl
@[go_sem] theorem c25_10_wp (P : Program) (Q : APost) (a : AFr) (σ : ASt) : c25_10.wp P Q a σ = ACode.wp P (.seq c25_4 c25_9) Q a σ := id rfl
@[go_sem] theorem c25_11_wp (P : Program) (Q : APost) (a : AFr) (σ : ASt) : c25_11.wp P Q a σ = ACode.wp P (.block 1 c25_10) Q a σ := id rfl
@[go_sem] theorem c25_12_wp (P : Program) (Q : APost) (a : AFr) (σ : ASt) : c25_12.wp P Q a σ = ACode.wp P (.ops [
    ⟨(some 23), none, .q (.bin .add (.t 9) (.v (.int .i64 1))), []⟩,
    ⟨(some 9), none, .q (.mv (.t 23)), []⟩]) Q a σ := id rfl
@[go_sem] theorem c25_13_wp (P : Program) (Q : APost) (a : AFr) (σ : ASt) : c25_13.wp P Q a σ = ACode.wp P (.seq c25_11 c25_12) Q a σ := id rfl
@[go_sem] theorem c25_14_wp (P : Program) (Q : APost) (a : AFr) (σ : ASt) : c25_14.wp P Q a σ = ACode.wp P (.seq c25_3 c25_13) Q a σ := id rfl
@[go_sem] theorem c25_15_wp (P : Program) (Q : APost) (a : AFr) (σ : ASt) : c25_15.wp P Q a σ = ACode.wp P (.seq c25_2 c25_14) Q a σ := id rfl
@[go_sem] theorem c25_16_wp (P : Program) (Q : APost) (a : AFr) (σ : ASt) : c25_16.wp P Q a σ = ACode.wp P (.loop c25_15) Q a σ := id rfl
@[go_sem] theorem c25_17_wp (P : Program) (Q : APost) (a : AFr) (σ : ASt) : c25_17.wp P Q a σ = ACode.wp P (.block 0 c25_16) Q a σ := id rfl
@[go_sem] theorem c25_18_wp (P : Program) (Q : APost) (a : AFr) (σ : ASt) : c25_18.wp P Q a σ = ACode.wp P (.seq c25_1 c25_17) Q a σ := id rfl
@[go_sem] theorem c25_19_wp (P : Program) (Q : APost) (a : AFr) (σ : ASt) : c25_19.wp P Q a σ = ACode.wp P (.ops [
    ⟨(some 4), none, .q (.mv (.v (.bool false))), []⟩]) Q a σ := id rfl
@[go_sem] theorem c25_20_wp (P : Program) (Q : APost) (a : AFr) (σ : ASt) : c25_20.wp P Q a σ = ACode.wp P (.seq c25_19 .ret) Q a σ := id rfl
@[go_sem] theorem c25_21_wp (P : Program) (Q : APost) (a : AFr) (σ : ASt) : c25_21.wp P Q a σ = ACode.wp P (.seq c25_18 c25_20) Q a σ := id rfl
@[go_sem] theorem c25_22_wp (P : Program) (Q : APost) (a : AFr) (σ : ASt) : c25_22.wp P Q a σ = ACode.wp P (.seq c25_0 c25_21) Q a σ := id rfl
def c25 : AFn := ⟨24, [.t 4], c25_22⟩
set_option maxRecDepth 100000 in
theorem c25_ok : compF Try.prog Try.f25 = some c25 := by kernel_rfl
theorem a25 {args : List AV} {σ : ASt} {R : AV → ASt → Prop} (hl : args.length ≤ 24) (h : c25_22.wp Try.prog (RetQ [.t 4] R) (init args) σ) : ACalls Try.prog 25 args σ R := acalls_of Try.func25 c25_ok hl h

/-! 26: tabular/vint.Has -/
def c26_0 : ACode := .ops [
    ⟨(some 4), none, .q (.mv (.v (.bool false))), []⟩]
def c26_1 : ACode := .ops [
    ⟨(some 8), none, .q (.mv (.t 0)), []⟩,
    ⟨(some 9), none, .q (.len (.t 8)), []⟩,
    ⟨(some 5), none, .q (.mv (.v (.int .i64 0))), []⟩,
    ⟨(some 6), none, .q (.mv (.t 9)), []⟩]
def c26_2 : ACode := .ops [
    ⟨(some 10), none, .q (.mv (.t 5)), []⟩,
    ⟨(some 11), none, .q (.mv (.t 6)), []⟩,
    ⟨(some 12), none, .q (.bin .lss (.t 10) (.t 11)), []⟩]
def c26_3 : ACode := .cond (.t 12) .skip (.exit 0)
def c26_4 : ACode := .seq c26_2 c26_3
def c26_5 : ACode := .ops [
    ⟨(some 13), none, .q (.mv (.t 5)), []⟩,
    ⟨(some 14), none, .q (.mv (.t 6)), []⟩,
    ⟨(some 15), none, .q (.bin .add (.t 13) (.t 14)), []⟩,
    ⟨(some 16), none, .q (.bin .quo (.t 15) (.v (.int .i64 2))), []⟩,
    ⟨(some 7), none, .q (.mv (.t 16)), []⟩]
def c26_6 : ACode := .ops [
    ⟨(some 17), none, .q (.mv (.t 0)), []⟩,
    ⟨(some 18), none, .q (.mv (.t 7)), []⟩,
    ⟨(some 19), none, .q (.ia 2 (.t 17) (.t 18)), []⟩,
    ⟨(some 20), none, .q (.fa 1 (.t 19)), []⟩,
    ⟨(some 21), none, .q (.ld none (.t 20)), []⟩,
    ⟨(some 22), none, .q (.mv (.t 1)), []⟩,
    ⟨(some 23), none, .q (.bin .leq (.t 21) (.t 22)), []⟩]
def c26_7 : ACode := .ops [
    ⟨(some 24), none, .q (.mv (.t 7)), []⟩,
    ⟨(some 25), none, .q (.bin .add (.t 24) (.v (.int .i64 1))), []⟩,
    ⟨(some 5), none, .q (.mv (.t 25)), []⟩]
def c26_8 : ACode := .ops [
    ⟨(some 26), none, .q (.mv (.t 7)), []⟩,
    ⟨(some 6), none, .q (.mv (.t 26)), []⟩]
def c26_9 : ACode := .cond (.t 23) c26_7 c26_8
def c26_10 : ACode := .seq c26_6 c26_9
def c26_11 : ACode := .seq c26_5 c26_10
def c26_12 : ACode := .block 1 c26_11
def c26_13 : ACode := .seq c26_4 c26_12
def c26_14 : ACode := .loop c26_13
def c26_15 : ACode := .block 0 c26_14
def c26_16 : ACode := .ops [
    ⟨(some 27), none, .q (.mv (.t 5)), []⟩,
    ⟨(some 28), none, .q (.mv (.t 0)), []⟩,
    ⟨(some 29), none, .q (.len (.t 28)), []⟩,
    ⟨(some 30), none, .q (.bin .lss (.t 27) (.t 29)), []⟩,
    ⟨(some 31), none, .q (.mv (.t 30)), []⟩,
    ⟨(some 32), (some (31, true)), .q (.mv (.t 0)), []⟩,
    ⟨(some 33), (some (31, true)), .q (.mv (.t 5)), []⟩,
    ⟨(some 34), (some (31, true)), .q (.ia 2 (.t 32) (.t 33)), []⟩,
    ⟨(some 35), (some (31, true)), .q (.fa 0 (.t 34)), []⟩,
    ⟨(some 36), (some (31, true)), .q (.ld none (.t 35)), []⟩,
    ⟨(some 37), (some (31, true)), .q (.mv (.t 1)), []⟩,
    ⟨(some 38), (some (31, true)), .q (.bin .leq (.t 36) (.t 37)), []⟩,
    ⟨(some 39), none, .q (.pick (.t 31) (.t 38) (.v (.bool false))), []⟩,
    ⟨(some 4), none, .q (.mv (.t 39)), []⟩]
def c26_17 : ACode := .seq c26_16 .ret
def c26_18 : ACode := .seq c26_15 c26_17
def c26_19 : ACode := .seq c26_1 c26_18
def c26_20 : ACode := .seq c26_0 c26_19
@[go_sem] theorem c26_0_wp (P : Program) (Q : APost) (a : AFr) (σ : ASt) : c26_0.wp P Q a σ = ACode.wp P (.ops [
    ⟨(some 4), none, .q (.mv (.v (.bool false))), []⟩]) Q a σ := id rfl
@[go_sem] theorem c26_1_wp (P : Program) (Q : APost) (a : AFr) (σ : ASt) : c26_1.wp P Q a σ = ACode.wp P (.ops [
    ⟨(some 8), none, .q (.mv (.t 0)), []⟩,
    ⟨(some 9), none, .q (.len (.t 8)), []⟩,
    ⟨(some 5), none, .q (.mv (.v (.int .i64 0))), []⟩,
    ⟨(some 6), none, .q (.mv (.t 9)), []⟩]) Q a σ := id rfl
@[go_sem] theorem c26_2_wp (P : Program) (Q : APost) (a : AFr) (σ : ASt) : c26_2.wp P Q a σ = ACode.wp P (.ops [
    ⟨(some 10), none, .q (.mv (.t 5)), []⟩,
    ⟨(some 11), none, .q (.mv (.t 6)), []⟩,
    ⟨(some 12), none, .q (.bin .lss (.t 10) (.t 11)), []⟩]) Q a σ := id rfl
@[go_sem] theorem c26_3_wp (P : Program) (Q : APost) (a : AFr) (σ : ASt) : c26_3.wp P Q a σ = ACode.wp P (.cond (.t 12) .skip (.exit 0)) Q a σ := id rfl
@[go_sem] theorem c26_4_wp (P : Program) (Q : APost) (a : AFr) (σ : ASt) : c26_4.wp P Q a σ = ACode.wp P (.seq c26_2 c26_3) Q a σ := id rfl
@[go_sem] theorem c26_5_wp (P : Program) (Q : APost) (a : AFr) (σ : ASt) : c26_5.wp P Q a σ = ACode.wp P (.ops [
    ⟨(some 13), none, .q (.mv (.t 5)), []⟩,
    ⟨(some 14), none, .q (.mv (.t 6)), []⟩,
    ⟨(some 15), none, .q (.bin .add (.t 13) (.t 14)), []⟩,
    ⟨(some 16), none, .q (.bin .quo (.t 15) (.v (.int .i64 2))), []⟩,
    ⟨(some 7), none, .q (.mv (.t 16)), []⟩]) Q a σ := id rfl
@[go_sem] theorem c26_6_wp (P : Program) (Q : APost) (a : AFr) (σ : ASt) : c26_6.wp P Q a σ = ACode.wp P (.ops [
    ⟨(some 17), none, .q (.mv (.t 0)), []⟩,
    ⟨(some 18), none, .q (.mv (.t 7)), []⟩,
    ⟨(some 19), none, .q (.ia 2 (.t 17) (.t 18)), []⟩,
    ⟨(some 20), none, .q (.fa 1 (.t 19)), []⟩,
    ⟨(some 21), none, .q (.ld none (.t 20)), []⟩,
    ⟨(some 22), none, .q (.mv (.t 1)), []⟩,
    ⟨(some 23), none, .q (.bin .leq (.t 21) (.t 22)), []⟩]) Q a σ := id rfl
@[go_sem] theorem c26_7_wp (P : Program) (Q : APost) (a : AFr) (σ : ASt) : c26_7.wp P Q a σ = ACode.wp P (.ops [
    ⟨(some 24), none, .q (.mv (.t 7)), []⟩,
    ⟨(some 25), none, .q (.bin .add (.t 24) (.v (.int .i64 1))), []⟩,
    ⟨(some 5), none, .q (.mv (.t 25)), []⟩]) Q a σ := id rfl
@[go_sem] theorem c26_8_wp (P : Program) (Q : APost) (a : AFr) (σ : ASt) : c26_8.wp P Q a σ = ACode.wp P (.ops [
    ⟨(some 26), none, .q (.mv (.t 7)), []⟩,
    ⟨(some 6), none, .q (.mv (.t 26)), []⟩]) Q a σ := id rfl
@[go_sem] theorem c26_9_wp (P : Program) (Q : APost) (a : AFr) (σ : ASt) : c26_9.wp P Q a σ = ACode.wp P (.cond (.t 23) c26_7 c26_8) Q a σ := id rfl
@[go_sem] theorem c26_10_wp (P : Program) (Q : APost) (a : AFr) (σ : ASt) : c26_10.wp P Q a σ = ACode.wp P (.seq c26_6 c26_9) Q a σ := id rfl
@[go_sem] theorem c26_11_wp (P : Program) (Q : APost) (a : AFr) (σ : ASt) : c26_11.wp P Q a σ = ACode.wp P (.seq c26_5 c26_10) Q a σ := id rfl
@[go_sem] theorem c26_12_wp (P : Program) (Q : APost) (a : AFr) (σ : ASt) : c26_12.wp P Q a σ = ACode.wp P (.block 1 c26_11) Q a σ := id rfl
@[go_sem] theorem c26_13_wp (P : Program) (Q : APost) (a : AFr) (σ : ASt) : c26_13.wp P Q a σ = ACode.wp P (.seq c26_4 c26_12) Q a σ := id rfl
@[go_sem] theorem c26_14_wp (P : Program) (Q : APost) (a : AFr) (σ : ASt) : c26_14.wp P Q a σ = ACode.wp P (.loop c26_13) Q a σ := id rfl
@[go_sem] theorem c26_15_wp (P : Program) (Q : APost) (a : AFr) (σ : ASt) : c26_15.wp P Q a σ = ACode.wp P (.block 0 c26_14) Q a σ := id rfl
@[go_sem] theorem c26_16_wp (P : Program) (Q : APost) (a : AFr) (σ : ASt) : c26_16.wp P Q a σ = ACode.wp P (.ops [
    ⟨(some 27), none, .q (.mv (.t 5)), []⟩,
    ⟨(some 28), none, .q (.mv (.t 0)), []⟩,
    ⟨(some 29), none, .q (.len (.t 28)), []⟩,
    ⟨(some 30), none, .q (.bin .lss (.t 27) (.t 29)), []⟩,
    ⟨(some 31), none, .q (.mv (.t 30)), []⟩,
    ⟨(some 32), (some (31, true)), .q (.mv (.t 0)), []⟩,
    ⟨(some 33), (some (31, true)), .q (.mv (.t 5)), []⟩,
    ⟨(some 34), (some (31, true)), .q (.ia 2 (.t 32) (.t 33)), []⟩,
    ⟨(some 35), (some (31, true)), .q (.fa 0 (.t 34)), []⟩,
    ⟨(some 36), (some (31, true)), .q (.ld none (.t 35)), []⟩,
    ⟨(some 37), (some (31, true)), .q (.mv (.t 1)), []⟩,
    ⟨(some 38), (some (31, true)), .q (.bin .leq (.t 36) (.t 37)), []⟩,
    ⟨(some 39), none, .q (.pick (.t 31) (.t 38) (.v (.bool false))), []⟩,
    ⟨(some 4), none, .q (.mv (.t 39)), []⟩]) Q a σ := id rfl
@[go_sem] theorem c26_17_wp (P : Program) (Q : APost) (a : AFr) (σ : ASt) : c26_17.wp P Q a σ = ACode.wp P (.seq c26_16 .ret) Q a σ := id rfl
@[go_sem] theorem c26_18_wp (P : Program) (Q : APost) (a : AFr) (σ : ASt) : c26_18.wp P Q a σ = ACode.wp P (.seq c26_15 c26_17) Q a σ := id rfl
@[go_sem] theorem c26_19_wp (P : Program) (Q : APost) (a : AFr) (σ : ASt) : c26_19.wp P Q a σ = ACode.wp P (.seq c26_1 c26_18) Q a σ := id rfl
@[go_sem] theorem c26_20_wp (P : Program) (Q : APost) (a : AFr) (σ : ASt) : c26_20.wp P Q a σ = ACode.wp P (.seq c26_0 c26_19) Q a σ := id rfl
def c26 : AFn := ⟨40, [.t 4], c26_20⟩
set_option maxRecDepth 100000 in
theorem c26_ok : compF Try.prog Try.f26 = some c26 := by kernel_rfl
theorem a26 {args : List AV} {σ : ASt} {R : AV → ASt → Prop} (hl : args.length ≤ 40) (h : c26_20.wp Try.prog (RetQ [.t 4] R) (init args) σ) : ACalls Try.prog 26 args σ R := acalls_of Try.func26 c26_ok hl h

/-! 29: (*tabular/vint.Reader).Done -/
def c29_0 : ACode := .ops [
    ⟨(some 2), none, .q (.mv (.v (.int .i64 0))), []⟩]
def c29_1 : ACode := .ops [
    ⟨(some 3), none, .q (.mv (.t 0)), []⟩,
    ⟨(some 4), none, .q (.nc (.t 3)), []⟩,
    ⟨(some 5), none, .q (.fa 1 (.t 4)), []⟩,
    ⟨(some 6), none, .q (.ld none (.t 5)), []⟩,
    ⟨(some 7), none, .q (.mv (.t 0)), []⟩,
    ⟨(some 8), none, .q (.nc (.t 7)), []⟩,
    ⟨(some 9), none, .q (.fa 0 (.t 8)), []⟩,
    ⟨(some 10), none, .q (.ld none (.t 9)), []⟩,
    ⟨(some 11), none, .q (.lenS (.t 10)), []⟩,
    ⟨(some 12), none, .q (.bin .lss (.t 6) (.t 11)), []⟩]
def c29_2 : ACode := .ops [
    ⟨(some 13), none, .q (.mv (.t 0)), []⟩,
    ⟨(some 14), none, .e (.call 48 [(.t 13), (.v (.int .i64 3))]), []⟩]
def c29_3 : ACode := .cond (.t 12) c29_2 .skip
def c29_4 : ACode := .seq c29_1 c29_3
def c29_5 : ACode := .ops [
    ⟨(some 15), none, .q (.mv (.t 0)), []⟩,
    ⟨(some 16), none, .q (.nc (.t 15)), []⟩,
    ⟨(some 17), none, .q (.fa 2 (.t 16)), []⟩,
    ⟨(some 18), none, .q (.ld none (.t 17)), []⟩,
    ⟨(some 2), none, .q (.mv (.t 18)), []⟩]
def c29_6 : ACode := .seq c29_5 .ret
def c29_7 : ACode := .seq c29_4 c29_6
def c29_8 : ACode := .seq c29_0 c29_7
@[go_sem] theorem c29_0_wp (P : Program) (Q : APost) (a : AFr) (σ : ASt) : c29_0.wp P Q a σ = ACode.wp P (.ops [
    ⟨(some 2), none, .q (.mv (.v (.int .i64 0))), []⟩]) Q a σ := id rfl
@[go_sem] theorem c29_1_wp (P : Program) (Q : APost) (a : AFr) (σ : ASt) : c29_1.wp P Q a σ = ACode.wp P (.ops [
    ⟨(some 3), none, .q (.mv (.t 0)), []⟩,
    ⟨(some 4), none, .q (.nc (.t 3)), []⟩,
    ⟨(some 5), none, .q (.fa 1 (.t 4)), []⟩,
    ⟨(some 6), none, .q (.ld none (.t 5)), []⟩,
    ⟨(some 7), none, .q (.mv (.t 0)), []⟩,
    ⟨(some 8), none, .q (.nc (.t 7)), []⟩,
    ⟨(some 9), none, .q (.fa 0 (.t 8)), []⟩,
    ⟨(some 10), none, .q (.ld none (.t 9)), []⟩,
    ⟨(some 11), none, .q (.lenS (.t 10)), []⟩,
    ⟨(some 12), none, .q (.bin .lss (.t 6) (.t 11)), []⟩]) Q a σ := id rfl
@[go_sem] theorem c29_2_wp (P : Program) (Q : APost) (a : AFr) (σ : ASt) : c29_2.wp P Q a σ = ACode.wp P (.ops [
    ⟨(some 13), none, .q (.mv (.t 0)), []⟩,
    ⟨(some 14), none, .e (.call 48 [(.t 13), (.v (.int .i64 3))]), []⟩]) Q a σ := id rfl
@[go_sem] theorem c29_3_wp (P : Program) (Q : APost) (a : AFr) (σ : ASt) : c29_3.wp P Q a σ = ACode.wp P (.cond (.t 12) c29_2 .skip) Q a σ := id rfl
@[go_sem] theorem c29_4_wp (P : Program) (Q : APost) (a : AFr) (σ : ASt) : c29_4.wp P Q a σ = ACode.wp P (.seq c29_1 c29_3) Q a σ := id rfl
@[go_sem] theorem c29_5_wp (P : Program) (Q : APost) (a : AFr) (σ : ASt) : c29_5.wp P Q a σ = ACode.wp P (.ops [
    ⟨(some 15), none, .q (.mv (.t 0)), []⟩,
    ⟨(some 16), none, .q (.nc (.t 15)), []⟩,
    ⟨(some 17), none, .q (.fa 2 (.t 16)), []⟩,
    ⟨(some 18), none, .q (.ld none (.t 17)), []⟩,
    ⟨(some 2), none, .q (.mv (.t 18)), []⟩]) Q a σ := id rfl
@[go_sem] theorem c29_6_wp (P : Program) (Q : APost) (a : AFr) (σ : ASt) : c29_6.wp P Q a σ = ACode.wp P (.seq c29_5 .ret) Q a σ := id rfl
@[go_sem] theorem c29_7_wp (P : Program) (Q : APost) (a : AFr) (σ : ASt) : c29_7.wp P Q a σ = ACode.wp P (.seq c29_4 c29_6) Q a σ := id rfl
@[go_sem] theorem c29_8_wp (P : Program) (Q : APost) (a : AFr) (σ : ASt) : c29_8.wp P Q a σ = ACode.wp P (.seq c29_0 c29_7) Q a σ := id rfl
def c29 : AFn := ⟨19, [.t 2], c29_8⟩
set_option maxRecDepth 100000 in
theorem c29_ok : compF Try.prog Try.f29 = some c29 := by kernel_rfl
theorem a29 {args : List AV} {σ : ASt} {R : AV → ASt → Prop} (hl : args.length ≤ 19) (h : c29_8.wp Try.prog (RetQ [.t 2] R) (init args) σ) : ACalls Try.prog 29 args σ R := acalls_of Try.func29 c29_ok hl h

/-! 30: tabular/tabularref02.Uint -/
def c30_0 : ACode := .ops [
    ⟨(some 2), none, .q (.mv (.v (.str []))), []⟩]
def c30_1 : ACode := .ops [
    ⟨(some 3), none, .q (.mv (.t 0)), []⟩,
    ⟨(some 4), none, .q (.bin .lss (.t 3) (.v (.int .u64 128))), []⟩]
def c30_2 : ACode := .ops [
    ⟨(some 5), none, .q (.mv (.t 0)), []⟩,
    ⟨(some 6), none, .q (.conv .u8 (.t 5)), []⟩,
    ⟨(some 7), none, .q (.bsl 1 [(.t 6)]), []⟩,
    ⟨(some 8), none, .q (.b2s (.t 7)), []⟩,
    ⟨(some 2), none, .q (.mv (.t 8)), []⟩]
def c30_3 : ACode := .seq c30_2 .ret
def c30_4 : ACode := .cond (.t 4) c30_3 .skip
def c30_5 : ACode := .seq c30_1 c30_4
def c30_6 : ACode := .ops [
    ⟨(some 9), none, .q (.mv (.t 0)), []⟩,
    ⟨(some 10), none, .q (.bin .rem (.t 9) (.v (.int .u64 128))), []⟩,
    ⟨(some 11), none, .q (.bin .add (.v (.int .u64 128)) (.t 10)), []⟩,
    ⟨(some 12), none, .q (.conv .u8 (.t 11)), []⟩,
    ⟨(some 13), none, .q (.bsl 1 [(.t 12)]), []⟩,
    ⟨(some 14), none, .q (.b2s (.t 13)), []⟩,
    ⟨(some 15), none, .q (.mv (.t 0)), []⟩,
    ⟨(some 16), none, .q (.bin .quo (.t 15) (.v (.int .u64 128))), []⟩,
    ⟨(some 17), none, .e (.call 30 [(.t 16)]), [⟨none, .b2s (.t 13), 14⟩]⟩,
    ⟨(some 18), none, .q (.bin .add (.t 14) (.t 17)), []⟩,
    ⟨(some 2), none, .q (.mv (.t 18)), []⟩]
def c30_7 : ACode := .seq c30_6 .ret
def c30_8 : ACode := .seq c30_5 c30_7
def c30_9 : ACode := .seq c30_0 c30_8
@[go_sem] theorem c30_0_wp (P : Program) (Q : APost) (a : AFr) (σ : ASt) : c30_0.wp P Q a σ = ACode.wp P (.ops [
    ⟨(some 2), none, .q (.mv (.v (.str []))), []⟩]) Q a σ := id rfl
@[go_sem] theorem c30_1_wp (P : Program) (Q : APost) (a : AFr) (σ : ASt) : c30_1.wp P Q a σ = ACode.wp P (.ops [
    ⟨(some 3), none, .q (.mv (.t 0)), []⟩,
    ⟨(some 4), none, .q (.bin .lss (.t 3) (.v (.int .u64 128))), []⟩]) Q a σ := id rfl
@[go_sem] theorem c30_2_wp (P : Program) (Q : APost) (a : AFr) (σ : ASt) : c30_2.wp P Q a σ = ACode.wp P (.ops [
    ⟨(some 5), none, .q (.mv (.t 0)), []⟩,
    ⟨(some 6), none, .q (.conv .u8 (.t 5)), []⟩,
    ⟨(some 7), none, .q (.bsl 1 [(.t 6)]), []⟩,
    ⟨(some 8), none, .q (.b2s (.t 7)), []⟩,
    ⟨(some 2), none, .q (.mv (.t 8)), []⟩]) Q a σ := id rfl
@[go_sem] theorem c30_3_wp (P : Program) (Q : APost) (a : AFr) (σ : ASt) : c30_3.wp P Q a σ = ACode.wp P (.seq c30_2 .ret) Q a σ := id rfl
@[go_sem] theorem c30_4_wp (P : Program) (Q : APost) (a : AFr) (σ : ASt) : c30_4.wp P Q a σ = ACode.wp P (.cond (.t 4) c30_3 .skip) Q a σ := id rfl
@[go_sem] theorem c30_5_wp (P : Program) (Q : APost) (a : AFr) (σ : ASt) : c30_5.wp P Q a σ = ACode.wp P (.seq c30_1 c30_4) Q a σ := id rfl
@[go_sem] theorem c30_6_wp (P : Program) (Q : APost) (a : AFr) (σ : ASt) : c30_6.wp P Q a σ = ACode.wp P (.ops [
    ⟨(some 9), none, .q (.mv (.t 0)), []⟩,
    ⟨(some 10), none, .q (.bin .rem (.t 9) (.v (.int .u64 128))), []⟩,
    ⟨(some 11), none, .q (.bin .add (.v (.int .u64 128)) (.t 10)), []⟩,
    ⟨(some 12), none, .q (.conv .u8 (.t 11)), []⟩,
    ⟨(some 13), none, .q (.bsl 1 [(.t 12)]), []⟩,
    ⟨(some 14), none, .q (.b2s (.t 13)), []⟩,
    ⟨(some 15), none, .q (.mv (.t 0)), []⟩,
    ⟨(some 16), none, .q (.bin .quo (.t 15) (.v (.int .u64 128))), []⟩,
    ⟨(some 17), none, .e (.call 30 [(.t 16)]), [⟨none, .b2s (.t 13), 14⟩]⟩,
    ⟨(some 18), none, .q (.bin .add (.t 14) (.t 17)), []⟩,
    ⟨(some 2), none, .q (.mv (.t 18)), []⟩]) Q a σ := id rfl
@[go_sem] theorem c30_7_wp (P : Program) (Q : APost) (a : AFr) (σ : ASt) : c30_7.wp P Q a σ = ACode.wp P (.seq c30_6 .ret) Q a σ := id rfl
@[go_sem] theorem c30_8_wp (P : Program) (Q : APost) (a : AFr) (σ : ASt) : c30_8.wp P Q a σ = ACode.wp P (.seq c30_5 c30_7) Q a σ := id rfl
@[go_sem] theorem c30_9_wp (P : Program) (Q : APost) (a : AFr) (σ : ASt) : c30_9.wp P Q a σ = ACode.wp P (.seq c30_0 c30_8) Q a σ := id rfl
def c30 : AFn := ⟨19, [.t 2], c30_9⟩
set_option maxRecDepth 100000 in
theorem c30_ok : compF Try.prog Try.f30 = some c30 := by kernel_rfl
theorem a30 {args : List AV} {σ : ASt} {R : AV → ASt → Prop} (hl : args.length ≤ 19) (h : c30_9.wp Try.prog (RetQ [.t 2] R) (init args) σ) : ACalls Try.prog 30 args σ R := acalls_of Try.func30 c30_ok hl h

/-! 31: (*tabular/vint.Reader).Rising -/
def c31_0 : ACode := .ops [
    ⟨(some 4), none, .q (.mv (.v (.sl .full []))), []⟩]
def c31_1 : ACode := .ops [
    ⟨(some 8), none, .q (.mv (.t 0)), []⟩,
    ⟨(some 9), none, .q (.mv (.t 1)), []⟩,
    ⟨(some 10), none, .e (.call 49 [(.t 8), (.t 9)]), []⟩,
    ⟨(some 5), none, .q (.mv (.t 10)), []⟩]
def c31_2 : ACode := .ops [
    ⟨(some 6), none, .q (.mv (.v (.sl .full []))), []⟩]
def c31_3 : ACode := .ops [
    ⟨(some 7), none, .q (.mv (.v (.int .i64 0))), []⟩]
def c31_4 : ACode := .ops [
    ⟨(some 11), none, .q (.mv (.t 7)), []⟩,
    ⟨(some 12), none, .q (.mv (.t 5)), []⟩,
    ⟨(some 13), none, .q (.bin .lss (.t 11) (.t 12)), []⟩,
    ⟨(some 14), none, .q (.mv (.t 13)), []⟩,
    ⟨(some 15), (some (14, true)), .q (.mv (.t 0)), []⟩,
    ⟨(some 16), (some (14, true)), .q (.nc (.t 15)), []⟩,
    ⟨(some 17), (some (14, true)), .q (.fa 2 (.t 16)), []⟩,
    ⟨(some 18), (some (14, true)), .q (.ld none (.t 17)), []⟩,
    ⟨(some 19), (some (14, true)), .q (.bin .eql (.t 18) (.v (.int .i64 0))), []⟩,
    ⟨(some 20), none, .q (.pick (.t 14) (.t 19) (.v (.bool false))), []⟩]
def c31_5 : ACode := .cond (.t 20) .skip (.exit 0)
def c31_6 : ACode := .seq c31_4 c31_5
def c31_7 : ACode := .ops [
    ⟨(some 23), none, .q (.mv (.t 7)), []⟩,
    ⟨(some 24), none, .q (.bin .eql (.t 23) (.v (.int .i64 0))), []⟩]
def c31_8 : ACode := .ops [
    ⟨(some 25), none, .q (.mv (.t 6)), []⟩,
    ⟨(some 26), none, .q (.mv (.t 0)), []⟩,
    ⟨(some 27), none, .e (.call 28 [(.t 26)]), []⟩,
    ⟨(some 28), none, .q (.bsl 1 [(.t 27)]), []⟩,
    ⟨(some 29), none, .e (.app 1 8 [(.int .u64 0)] (.t 25) (.t 28)), []⟩,
    ⟨(some 6), none, .q (.mv (.t 29)), []⟩]
def c31_9 : ACode := .ops [
    ⟨(some 30), none, .q (.mv (.t 6)), []⟩,
    ⟨(some 31), none, .q (.mv (.t 0)), []⟩,
    ⟨(some 32), none, .q (.mv (.t 6)), []⟩,
    ⟨(some 33), none, .q (.mv (.t 7)), []⟩,
    ⟨(some 34), none, .q (.bin .sub (.t 33) (.v (.int .i64 1))), []⟩,
    ⟨(some 35), none, .q (.ia 1 (.t 32) (.t 34)), []⟩,
    ⟨(some 36), none, .q (.ld none (.t 35)), []⟩,
    ⟨(some 37), none, .e (.call 50 [(.t 31), (.t 36)]), []⟩,
    ⟨(some 38), none, .q (.bsl 1 [(.t 37)]), []⟩,
    ⟨(some 39), none, .e (.app 1 8 [(.int .u64 0)] (.t 30) (.t 38)), []⟩,
    ⟨(some 6), none, .q (.mv (.t 39)), []⟩]
def c31_10 : ACode := .cond (.t 24) c31_8 c31_9
def c31_11 : ACode := .seq c31_7 c31_10
def c31_12 : ACode := .block 1 c31_11
def c31_13 : ACode := .ops [
    ⟨(some 21), none, .q (.mv (.t 7)), []⟩,
    ⟨(some 22), none, .q (.bin .add (.t 21) (.v (.int .i64 1))), []⟩,
    ⟨(some 7), none, .q (.mv (.t 22)), []⟩]
def c31_14 : ACode := .seq c31_12 c31_13
def c31_15 : ACode := .seq c31_6 c31_14
def c31_16 : ACode := .loop c31_15
def c31_17 : ACode := .block 0 c31_16
def c31_18 : ACode := .seq c31_3 c31_17
def c31_19 : ACode := .ops [
    ⟨(some 40), none, .q (.mv (.t 0)), []⟩,
    ⟨(some 41), none, .q (.nc (.t 40)), []⟩,
    ⟨(some 42), none, .q (.fa 2 (.t 41)), []⟩,
    ⟨(some 43), none, .q (.ld none (.t 42)), []⟩,
    ⟨(some 44), none, .q (.bin .neq (.t 43) (.v (.int .i64 0))), []⟩]
def c31_20 : ACode := .ops [
    ⟨(some 4), none, .q (.mv (.v (.sl .full []))), []⟩]
def c31_21 : ACode := .seq c31_20 .ret
def c31_22 : ACode := .cond (.t 44) c31_21 .skip
def c31_23 : ACode := .seq c31_19 c31_22
def c31_24 : ACode := .ops [
    ⟨(some 45), none, .q (.mv (.t 6)), []⟩,
    ⟨(some 4), none, .q (.mv (.t 45)), []⟩]
def c31_25 : ACode := .seq c31_24 .ret
def c31_26 : ACode := .seq c31_23 c31_25
def c31_27 : ACode := .seq c31_18 c31_26
def c31_28 : ACode := .seq c31_2 c31_27
def c31_29 : ACode := .seq c31_1 c31_28
def c31_30 : ACode := .seq c31_0 c31_29
@[go_sem] theorem c31_0_wp (P : Program) (Q : APost) (a : AFr) (σ : ASt) : c31_0.wp P Q a σ = ACode.wp P (.ops [
    ⟨(some 4), none, .q (.mv (.v (.sl .full []))), []⟩]) Q a σ := id rfl
@[go_sem] theorem c31_1_wp (P : Program) (Q : APost) (a : AFr) (σ : ASt) : c31_1.wp P Q a σ = ACode.wp P (.ops [
    ⟨(some 8), none, .q (.mv (.t 0)), []⟩,
    ⟨(some 9), none, .q (.mv (.t 1)), []⟩,
    ⟨(some 10), none, .e (.call 49 [(.t 8), (.t 9)]), []⟩,
    ⟨(some 5), none, .q (.mv (.t 10)), []⟩]) Q a σ := id rfl
@[go_sem] theorem c31_2_wp (P : Program) (Q : APost) (a : AFr) (σ : ASt) : c31_2.wp P Q a σ = ACode.wp P (.ops [
    ⟨(some 6), none, .q (.mv (.v (.sl .full []))), []⟩]) Q a σ := id rfl
@[go_sem] theorem c31_3_wp (P : Program) (Q : APost) (a : AFr) (σ : ASt) : c31_3.wp P Q a σ = ACode.wp P (.ops [
    ⟨(some 7), none, .q (.mv (.v (.int .i64 0))), []⟩]) Q a σ := id rfl
@[go_sem] theorem c31_4_wp (P : Program) (Q : APost) (a : AFr) (σ : ASt) : c31_4.wp P Q a σ = ACode.wp P (.ops [
    ⟨(some 11), none, .q (.mv (.t 7)), []⟩,
    ⟨(some 12), none, .q (.mv (.t 5)), []⟩,
    ⟨(some 13), none, .q (.bin .lss (.t 11) (.t 12)), []⟩,
    ⟨(some 14), none, .q (.mv (.t 13)), []⟩,
    ⟨(some 15), (some (14, true)), .q (.mv (.t 0)), []⟩,
    ⟨(some 16), (some (14, true)), .q (.nc (.t 15)), []⟩,
    ⟨(some 17), (some (14, true)), .q (.fa 2 (.t 16)), []⟩,
    ⟨(some 18), (some (14, true)), .q (.ld none (.t 17)), []⟩,
    ⟨(some 19), (some (14, true)), .q (.bin .eql (.t 18) (.v (.int .i64 0))), []⟩,
    ⟨(some 20), none, .q (.pick (.t 14) (.t 19) (.v (.bool false))), []⟩]) Q a σ := id rfl
@[go_sem] theorem c31_5_wp (P : Program) (Q : APost) (a : AFr) (σ : ASt) : c31_5.wp P Q a σ = ACode.wp P (.cond (.t 20) .skip (.exit 0)) Q a σ := id rfl
@[go_sem] theorem c31_6_wp (P : Program) (Q : APost) (a : AFr) (σ : ASt) : c31_6.wp P Q a σ = ACode.wp P (.seq c31_4 c31_5) Q a σ := id rfl
@[go_sem] theorem c31_7_wp (P : Program) (Q : APost) (a : AFr) (σ : ASt) : c31_7.wp P Q a σ = ACode.wp P (.ops [
    ⟨(some 23), none, .q (.mv (.t 7)), []⟩,
    ⟨(some 24), none, .q (.bin .eql (.t 23) (.v (.int .i64 0))), []⟩]) Q a σ := id rfl
@[go_sem] theorem c31_8_wp (P : Program) (Q : APost) (a : AFr) (σ : ASt) : c31_8.wp P Q a σ = ACode.wp P (.ops [
    ⟨(some 25), none, .q (.mv (.t 6)), []⟩,
    ⟨(some 26), none, .q (.mv (.t 0)), []⟩,
    ⟨(some 27), none, .e (.call 28 [(.t 26)]), []⟩,
    ⟨(some 28), none, .q (.bsl 1 [(.t 27)]), []⟩,
    ⟨(some 29), none, .e (.app 1 8 [(.int .u64 0)] (.t 25) (.t 28)), []⟩,
    ⟨(some 6), none, .q (.mv (.t 29)), []⟩]) Q a σ := id rfl
@[go_sem] theorem c31_9_wp (P : Program) (Q : APost) (a : AFr) (σ : ASt) : c31_9.wp P Q a σ = ACode.wp P (.ops [
    ⟨(some 30), none, .q (.mv (.t 6)), []⟩,
    ⟨(some 31), none, .q (.mv (.t 0)), []⟩,
    ⟨(some 32), none, .q (.mv (.t 6)), []⟩,
    ⟨(some 33), none, .q (.mv (.t 7)), []⟩,
    ⟨(some 34), none, .q (.bin .sub (.t 33) (.v (.int .i64 1))), []⟩,
    ⟨(some 35), none, .q (.ia 1 (.t 32) (.t 34)), []⟩,
    ⟨(some 36), none, .q (.ld none (.t 35)), []⟩,
    ⟨(some 37), none, .e (.call 50 [(.t 31), (.t 36)]), []⟩,
    ⟨(some 38), none, .q (.bsl 1 [(.t 37)]), []⟩,
    ⟨(some 39), none, .e (.app 1 8 [(.int .u64 0)] (.t 30) (.t 38)), []⟩,
    ⟨(some 6), none, .q (.mv (.t 39)), []⟩]) Q a σ := id rfl
@[go_sem] theorem c31_10_wp (P : Program) (Q : APost) (a : AFr) (σ : ASt) : c31_10.wp P Q a σ = ACode.wp P (.cond (.t 24) c31_8 c31_9) Q a σ := id rfl
@[go_sem] theorem c31_11_wp (P : Program) (Q : APost) (a : AFr) (σ : ASt) : c31_11.wp P Q a σ = ACode.wp P (.seq c31_7 c31_10) Q a σ := id rfl
@[go_sem] theorem c31_12_wp (P : Program) (Q : APost) (a : AFr) (σ : ASt) : c31_12.wp P Q a σ = ACode.wp P (.block 1 c31_11) Q a σ := id rfl
@[go_sem] theorem c31_13_wp (P : Program) (Q : APost) (a : AFr) (σ : ASt) : c31_13.wp P Q a σ = ACode.wp P (.ops [
    ⟨(some 21), none, .q (.mv (.t 7)), []⟩,
    ⟨(some 22), none, .q (.bin .add (.t 21) (.v (.int .i64 1))), []⟩,
    ⟨(some 7), none, .q (.mv (.t 22)), []⟩]) Q a σ := id rfl
@[go_sem] theorem c31_14_wp (P : Program) (Q : APost) (a : AFr) (σ : ASt) : c31_14.wp P Q a σ = ACode.wp P (.seq c31_12 c31_13) Q a σ := id rfl
@[go_sem] theorem c31_15_wp (P : Program) (Q : APost) (a : AFr) (σ : ASt) : c31_15.wp P Q a σ = ACode.wp P (.seq c31_6 c31_14) Q a σ := id rfl
@[go_sem] theorem c31_16_wp (P : Program) (Q : APost) (a : AFr) (σ : ASt) : c31_16.wp P Q a σ = ACode.wp P (.loop c31_15) Q a σ := id rfl
@[go_sem] theorem c31_17_wp (P : Program) (Q : APost) (a : AFr) (σ : ASt) : c31_17.wp P Q a σ = ACode.wp P (.block 0 c31_16) Q a σ := id rfl
@[go_sem] theorem c31_18_wp (P : Program) (Q : APost) (a : AFr) (σ : ASt) : c31_18.wp P Q a σ = ACode.wp P (.seq c31_3 c31_17) Q a σ := id rfl
@[go_sem] theorem c31_19_wp (P : Program) (Q : APost) (a : AFr) (σ : ASt) : c31_19.wp P Q a σ = ACode.wp P (.ops [
    ⟨(some 40), none, .q (.mv (.t 0)), []⟩,
    ⟨(some 41), none, .q (.nc (.t 40)), []⟩,
    ⟨(some 42), none, .q (.fa 2 (.t 41)), []⟩,
    ⟨(some 43), none, .q (.ld none (.t 42)), []⟩,
    ⟨(some 44), none, .q (.bin .neq (.t 43) (.v (.int .i64 0))), []⟩]) Q a σ := id rfl
@[go_sem] theorem c31_20_wp (P : Program) (Q : APost) (a : AFr) (σ : ASt) : c31_20.wp P Q a σ = ACode.wp P (.ops [
    ⟨(some 4), none, .q (.mv (.v (.sl .full []))), []⟩]) Q a σ := id rfl
@[go_sem] theorem c31_21_wp (P : Program) (Q : APost) (a : AFr) (σ : ASt) : c31_21.wp P Q a σ = ACode.wp P (.seq c31_20 .ret) Q a σ := id rfl
@[go_sem] theorem c31_22_wp (P : Program) (Q : APost) (a : AFr) (σ : ASt) : c31_22.wp P Q a σ = ACode.wp P (.cond (.t 44) c31_21 .skip) Q a σ := id rfl
@[go_sem] theorem c31_23_wp (P : Program) (Q : APost) (a : AFr) (σ : ASt) : c31_23.wp P Q a σ = ACode.wp P (.seq c31_19 c31_22) Q a σ := id rfl
@[go_sem] theorem c31_24_wp (P : Program) (Q : APost) (a : AFr) (σ : ASt) : c31_24.wp P Q a σ = ACode.wp P (.ops [
    ⟨(some 45), none, .q (.mv (.t 6)), []⟩,
    ⟨(some 4), none, .q (.mv (.t 45)), []⟩]) Q a σ := id rfl
@[go_sem] theorem c31_25_wp (P : Program) (Q : APost) (a : AFr) (σ : ASt) : c31_25.wp P Q a σ = ACode.wp P (.seq c31_24 .ret) Q a σ := id rfl
@[go_sem] theorem c31_26_wp (P : Program) (Q : APost) (a : AFr) (σ : ASt) : c31_26.wp P Q a σ = ACode.wp P (.seq c31_23 c31_25) Q a σ := id rfl
@[go_sem] theorem c31_27_wp (P : Program) (Q : APost) (a : AFr) (σ : ASt) : c31_27.wp P Q a σ = ACode.wp P (.seq c31_18 c31_26) Q a σ := id rfl
@[go_sem] theorem c31_28_wp (P : Program) (Q : APost) (a : AFr) (σ : ASt) : c31_28.wp P Q a σ = ACode.wp P (.seq c31_2 c31_27) Q a σ := id rfl
@[go_sem] theorem c31_29_wp (P : Program) (Q : APost) (a : AFr) (σ : ASt) : c31_29.wp P Q a σ = ACode.wp P (.seq c31_1 c31_28) Q a σ := id rfl
@[go_sem] theorem c31_30_wp (P : Program) (Q : APost) (a : AFr) (σ : ASt) : c31_30.wp P Q a σ = ACode.wp P (.seq c31_0 c31_29) Q a σ := id rfl
def c31 : AFn := ⟨46, [.t 4], c31_30⟩
set_option maxRecDepth 100000 in
theorem c31_ok : compF Try.prog Try.f31 = some c31 := by kernel_rfl
theorem a31 {args : List AV} {σ : ASt} {R : AV → ASt → Prop} (hl : args.length ≤ 46) (h : c31_30.wp Try.prog (RetQ [.t 4] R) (init args) σ) : ACalls Try.prog 31 args σ R := acalls_of Try.func31 c31_ok hl h

/-! 32: tabular/tabularref02.Rising -/
def c32_0 : ACode := .ops [
    ⟨(some 2), none, .q (.mv (.v (.str []))), []⟩]
def c32_1 : ACode := .ops [
    ⟨(some 6), none, .q (.mv (.t 0)), []⟩,
    ⟨(some 7), none, .q (.len (.t 6)), []⟩,
    ⟨(some 8), none, .q (.conv .u64 (.t 7)), []⟩,
    ⟨(some 9), none, .e (.call 30 [(.t 8)]), []⟩,
    ⟨(some 3), none, .q (.mv (.t 9)), []⟩]
def c32_2 : ACode := .ops [
    ⟨(some 10), none, .q (.mv (.t 0)), []⟩,
    ⟨(some 11), none, .q (.len (.t 10)), []⟩,
    ⟨(some 12), none, .q (.mv (.v (.int .i64 0))), []⟩]
def c32_3 : ACode := .ops [
    ⟨(some 13), none, .q (.bin .lss (.t 12) (.t 11)), []⟩]
def c32_4 : ACode := .cond (.t 13) .skip (.exit 0)
def c32_5 : ACode := .ops [
    ⟨(some 14), none, .q (.mv (.t 12)), []⟩,
    ⟨(some 15), none, .q (.ia 1 (.t 10) (.t 12)), []⟩,
    ⟨(some 16), none, .q (.ld none (.t 15)), []⟩,
    ⟨(some 4), none, .q (.mv (.t 14)), []⟩,
    ⟨(some 5), none, .q (.mv (.t 16)), []⟩]
def c32_6 : ACode := .ops [
    ⟨(some 17), none, .q (.mv (.t 4)), []⟩,
    ⟨(some 18), none, .q (.bin .gtr (.t 17) (.v (.int .i64 0))), []⟩]
def c32_7 : ACode := .ops [
    ⟨(some 19), none, .q (.mv (.t 5)), []⟩,
    ⟨(some 20), none, .q (.mv (.t 0)), []⟩,
    ⟨(some 21), none, .q (.mv (.t 4)), []⟩,
    ⟨(some 22), none, .q (.bin .sub (.t 21) (.v (.int .i64 1))), []⟩,
    ⟨(some 23), none, .q (.ia 1 (.t 20) (.t 22)), []⟩,
    ⟨(some 24), none, .q (.ld none (.t 23)), []⟩,
    ⟨(some 25), none, .q (.bin .sub (.t 19) (.t 24)), []⟩,
    ⟨(some 26), none, .q (.bin .sub (.t 25) (.v (.int .u64 1))), []⟩,
    ⟨(some 5), none, .q (.mv (.t 26)), []⟩]
def c32_8 : ACode := .cond (.t 18) c32_7 .skip
def c32_9 : ACode := .seq c32_6 c32_8
def c32_10 : ACode := .ops [
    ⟨(some 27), none, .q (.mv (.t 3)), []⟩,
    ⟨(some 28), none, .q (.mv (.t 5)), []⟩,
    ⟨(some 29), none, .e (.call 30 [(.t 28)]), []⟩,
    ⟨(some 30), none, .q (.bin .add (.t 27) (.t 29)), []⟩,
    ⟨(some 3), none, .q (.mv (.t 30)), []⟩]
def c32_11 : ACode := .seq c32_9 c32_10
def c32_12 : ACode := .seq c32_5 c32_11
def c32_13 : ACode := .block 1 c32_12
def c32_14 : ACode := .ops [
    ⟨(some 31), none, .q (.bin .add (.t 12) (.v (.int .i64 1))), []⟩,
    ⟨(some 12), none, .q (.mv (.t 31)), []⟩]
def c32_15 : ACode := .seq c32_13 c32_14
def c32_16 : ACode := .seq c32_4 c32_15
def c32_17 : ACode := .seq c32_3 c32_16
def c32_18 : ACode := .loop c32_17
def c32_19 : ACode := .block 0 c32_18
def c32_20 : ACode := .seq c32_2 c32_19
def c32_21 : ACode := .ops [
    ⟨(some 32), none, .q (.mv (.t 3)), []⟩,
    ⟨(some 2), none, .q (.mv (.t 32)), []⟩]
def c32_22 : ACode := .seq c32_21 .ret
def c32_23 : ACode := .seq c32_20 c32_22
def c32_24 : ACode := .seq c32_1 c32_23
def c32_25 : ACode := .seq c32_0 c32_24
@[go_sem] theorem c32_0_wp (P : Program) (Q : APost) (a : AFr) (σ : ASt) : c32_0.wp P Q a σ = ACode.wp P (.ops [
    ⟨(some 2), none, .q (.mv (.v (.str []))), []⟩]) Q a σ := id rfl
@[go_sem] theorem c32_1_wp (P : Program) (Q : APost) (a : AFr) (σ : ASt) : c32_1.wp P Q a σ = ACode.wp P (.ops [
    ⟨(some 6), none, .q (.mv (.t 0)), []⟩,
    ⟨(some 7), none, .q (.len (.t 6)), []⟩,
    ⟨(some 8), none, .q (.conv .u64 (.t 7)), []⟩,
    ⟨(some 9), none, .e (.call 30 [(.t 8)]), []⟩,
    ⟨(some 3), none, .q (.mv (.t 9)), []⟩]) Q a σ := id rfl
@[go_sem] theorem c32_2_wp (P : Program) (Q : APost) (a : AFr) (σ : ASt) : c32_2.wp P Q a σ = ACode.wp P (.ops [
    ⟨(some 10), none, .q (.mv (.t 0)), []⟩,
    ⟨(some 11), none, .q (.len (.t 10)), []⟩,
    ⟨(some 12), none, .q (.mv (.v (.int .i64 0))), []⟩]) Q a σ := id rfl
@[go_sem] theorem c32_3_wp (P : Program) (Q : APost) (a : AFr) (σ : ASt) : c32_3.wp P Q a σ = ACode.wp P (.ops [
    ⟨(some 13), none, .q (.bin .lss (.t 12) (.t 11)), []⟩]) Q a σ := id rfl
@[go_sem] theorem c32_4_wp (P : Program) (Q : APost) (a : AFr) (σ : ASt) : c32_4.wp P Q a σ = ACode.wp P (.cond (.t 13) .skip (.exit 0)) Q a σ := id rfl
@[go_sem] theorem c32_5_wp (P : Program) (Q : APost) (a : AFr) (σ : ASt) : c32_5.wp P Q a σ = ACode.wp P (.ops [
    ⟨(some 14), none, .q (.mv (.t 12)), []⟩,
    ⟨(some 15), none, .q (.ia 1 (.t 10) (.t 12)), []⟩,
    ⟨(some 16), none, .q (.ld none (.t 15)), []⟩,
    ⟨(some 4), none, .q (.mv (.t 14)), []⟩,
    ⟨(some 5), none, .q (.mv (.t 16)), []⟩]) Q a σ := id rfl
@[go_sem] theorem c32_6_wp (P : Program) (Q : APost) (a : AFr) (σ : ASt) : c32_6.wp P Q a σ = ACode.wp P (.ops [
    ⟨(some 17), none, .q (.mv (.t 4)), []⟩,
    ⟨(some 18), none, .q (.bin .gtr (.t 17) (.v (.int .i64 0))), []⟩]) Q a σ := id rfl
@[go_sem] theorem c32_7_wp (P : Program) (Q : APost) (a : AFr) (σ : ASt) : c32_7.wp P Q a σ = ACode.wp P (.ops [
    ⟨(some 19), none, .q (.mv (.t 5)), []⟩,
    ⟨(some 20), none, .q (.mv (.t 0)), []⟩,
    ⟨(some 21), none, .q (.mv (.t 4)), []⟩,
    ⟨(some 22), none, .q (.bin .sub (.t 21) (.v (.int .i64 1))), []⟩,
    ⟨(some 23), none, .q (.ia 1 (.t 20) (.t 22)), []⟩,
    ⟨(some 24), none, .q (.ld none (.t 23)), []⟩,
    ⟨(some 25), none, .q (.bin .sub (.t 19) (.t 24)), []⟩,
    ⟨(some 26), none, .q (.bin .sub (.t 25) (.v (.int .u64 1))), []⟩,
    ⟨(some 5), none, .q (.mv (.t 26)), []⟩]) Q a σ := id rfl
@[go_sem] theorem c32_8_wp (P : Program) (Q : APost) (a : AFr) (σ : ASt) : c32_8.wp P Q a σ = ACode.wp P (.cond (.t 18) c32_7 .skip) Q a σ := id rfl
@[go_sem] theorem c32_9_wp (P : Program) (Q : APost) (a : AFr) (σ : ASt) : c32_9.wp P Q a σ = ACode.wp P (.seq c32_6 c32_8) Q a σ := id rfl
@[go_sem] theorem c32_10_wp (P : Program) (Q : APost) (a : AFr) (σ : ASt) : c32_10.wp P Q a σ = ACode.wp P (.ops [
    ⟨(some 27), none, .q (.mv (.t 3)), []⟩,
    ⟨(some 28), none, .q (.mv (.t 5)), []⟩,
    ⟨(some 29), none, .e (.call 30 [(.t 28)]), []⟩,
    ⟨(some 30), none, .q (.bin .add (.t 27) (.t 29)), []⟩,
    ⟨(some 3), none, .q (.mv (.t 30)), []⟩]) Q a σ := id rfl
@[go_sem] theorem c32_11_wp (P : Program) (Q : APost) (a : AFr) (σ : ASt) : c32_11.wp P Q a σ = ACode.wp P (.seq c32_9 c32_10) Q a σ := id rfl
@[go_sem] theorem c32_12_wp (P : Program) (Q : APost) (a : AFr) (σ : ASt) : c32_12.wp P Q a σ = ACode.wp P (.seq c32_5 c32_11) Q a σ := id rfl
@[go_sem] theorem c32_13_wp (P : Program) (Q : APost) (a : AFr) (σ : ASt) : c32_13.wp P Q a σ = ACode.wp P (.block 1 c32_12) Q a σ := id rfl
@[go_sem] theorem c32_14_wp (P : Program) (Q : APost) (a : AFr) (σ : ASt) : c32_14.wp P Q a σ = ACode.wp P (.ops [
    ⟨(some 31), none, .q (.bin .add (.t 12) (.v (.int .i64 1))), []⟩,
    ⟨(some 12), none, .q (.mv (.t 31)), []⟩]) Q a σ := id rfl
@[go_sem] theorem c32_15_wp (P : Program) (Q : APost) (a : AFr) (σ : ASt) : c32_15.wp P Q a σ = ACode.wp P (.seq c32_13 c32_14) Q a σ := id rfl
@[go_sem] theorem c32_16_wp (P : Program) (Q : APost) (a : AFr) (σ : ASt) : c32_16.wp P Q a σ = ACode.wp P (.seq c32_4 c32_15) Q a σ := id rfl
@[go_sem] theorem c32_17_wp (P : Program) (Q : APost) (a : AFr) (σ : ASt) : c32_17.wp P Q a σ = ACode.wp P (.seq c32_3 c32_16) Q a σ := id rfl
@[go_sem] theorem c32_18_wp (P : Program) (Q : APost) (a : AFr) (σ : ASt) : c32_18.wp P Q a σ = ACode.wp P (.loop c32_17) Q a σ := id rfl
@[go_sem] theorem c32_19_wp (P : Program) (Q : APost) (a : AFr) (σ : ASt) : c32_19.wp P Q a σ = ACode.wp P (.block 0 c32_18) Q a σ := id rfl
@[go_sem] theorem c32_20_wp (P : Program) (Q : APost) (a : AFr) (σ : ASt) : c32_20.wp P Q a σ = ACode.wp P (.seq c32_2 c32_19) Q a σ := id rfl
@[go_sem] theorem c32_21_wp (P : Program) (Q : APost) (a : AFr) (σ : ASt) : c32_21.wp P Q a σ = ACode.wp P (.ops [
    ⟨(some 32), none, .q (.mv (.t 3)), []⟩,
    ⟨(some 2), none, .q (.mv (.t 32)), []⟩]) Q a σ := id rfl
@[go_sem] theorem c32_22_wp (P : Program) (Q : APost) (a : AFr) (σ : ASt) : c32_22.wp P Q a σ = ACode.wp P (.seq c32_21 .ret) Q a σ := id rfl
@[go_sem] theorem c32_23_wp (P : Program) (Q : APost) (a : AFr) (σ : ASt) : c32_23.wp P Q a σ = ACode.wp P (.seq c32_20 c32_22) Q a σ := id rfl
@[go_sem] theorem c32_24_wp (P : Program) (Q : APost) (a : AFr) (σ : ASt) : c32_24.wp P Q a σ = ACode.wp P (.seq c32_1 c32_23) Q a σ := id rfl
@[go_sem] theorem c32_25_wp (P : Program) (Q : APost) (a : AFr) (σ : ASt) : c32_25.wp P Q a σ = ACode.wp P (.seq c32_0 c32_24) Q a σ := id rfl
def c32 : AFn := ⟨33, [.t 2], c32_25⟩
set_option maxRecDepth 100000 in
theorem c32_ok : compF Try.prog Try.f32 = some c32 := by kernel_rfl
theorem a32 {args : List AV} {σ : ASt} {R : AV → ASt → Prop} (hl : args.length ≤ 33) (h : c32_25.wp Try.prog (RetQ [.t 2] R) (init args) σ) : ACalls Try.prog 32 args σ R := acalls_of Try.func32 c32_ok hl h

/-! 33: (*tabular/vint.Reader).Spans -/
def c33_0 : ACode := .ops [
    ⟨(some 4), none, .q (.mv (.v (.sl .full []))), []⟩]
def c33_1 : ACode := .ops [
    ⟨(some 9), none, .q (.mv (.t 0)), []⟩,
    ⟨(some 10), none, .q (.mv (.t 1)), []⟩,
    ⟨(some 11), none, .e (.call 49 [(.t 9), (.t 10)]), []⟩,
    ⟨(some 5), none, .q (.mv (.t 11)), []⟩]
def c33_2 : ACode := .ops [
    ⟨(some 6), none, .q (.mv (.v (.sl .full []))), []⟩]
def c33_3 : ACode := .ops [
    ⟨(some 7), none, .q (.mv (.v (.int .i64 0))), []⟩]
def c33_4 : ACode := .ops [
    ⟨(some 12), none, .q (.mv (.t 7)), []⟩,
    ⟨(some 13), none, .q (.mv (.t 5)), []⟩,
    ⟨(some 14), none, .q (.bin .lss (.t 12) (.t 13)), []⟩,
    ⟨(some 15), none, .q (.mv (.t 14)), []⟩,
    ⟨(some 16), (some (15, true)), .q (.mv (.t 0)), []⟩,
    ⟨(some 17), (some (15, true)), .q (.nc (.t 16)), []⟩,
    ⟨(some 18), (some (15, true)), .q (.fa 2 (.t 17)), []⟩,
    ⟨(some 19), (some (15, true)), .q (.ld none (.t 18)), []⟩,
    ⟨(some 20), (some (15, true)), .q (.bin .eql (.t 19) (.v (.int .i64 0))), []⟩,
    ⟨(some 21), none, .q (.pick (.t 15) (.t 20) (.v (.bool false))), []⟩]
def c33_5 : ACode := .cond (.t 21) .skip (.exit 0)
def c33_6 : ACode := .seq c33_4 c33_5
def c33_7 : ACode := .ops [
    ⟨(some 8), none, .e (.alloc [(.int .u64 0), (.int .u64 0)]), []⟩]
def c33_8 : ACode := .ops [
    ⟨(some 24), none, .q (.mv (.t 7)), []⟩,
    ⟨(some 25), none, .q (.bin .eql (.t 24) (.v (.int .i64 0))), []⟩]
def c33_9 : ACode := .ops [
    ⟨(some 26), none, .q (.mv (.t 0)), []⟩,
    ⟨(some 27), none, .e (.call 28 [(.t 26)]), []⟩,
    ⟨(some 28), none, .q (.fa 0 (.t 8)), []⟩,
    ⟨none, none, .e (.store 1 (.t 28) (.t 27)), []⟩]
def c33_10 : ACode := .ops [
    ⟨(some 29), none, .q (.mv (.t 0)), []⟩,
    ⟨(some 30), none, .q (.mv (.t 6)), []⟩,
    ⟨(some 31), none, .q (.mv (.t 7)), []⟩,
    ⟨(some 32), none, .q (.bin .sub (.t 31) (.v (.int .i64 1))), []⟩,
    ⟨(some 33), none, .q (.ia 2 (.t 30) (.t 32)), []⟩,
    ⟨(some 34), none, .q (.fa 1 (.t 33)), []⟩,
    ⟨(some 35), none, .q (.ld none (.t 34)), []⟩,
    ⟨(some 36), none, .e (.call 50 [(.t 29), (.t 35)]), []⟩,
    ⟨(some 37), none, .q (.fa 0 (.t 8)), []⟩,
    ⟨none, none, .e (.store 1 (.t 37) (.t 36)), []⟩]
def c33_11 : ACode := .cond (.t 25) c33_9 c33_10
def c33_12 : ACode := .seq c33_8 c33_11
def c33_13 : ACode := .ops [
    ⟨(some 38), none, .q (.mv (.t 0)), []⟩,
    ⟨(some 39), none, .q (.fa 0 (.t 8)), []⟩,
    ⟨(some 40), none, .q (.ld none (.t 39)), []⟩,
    ⟨(some 41), none, .e (.call 50 [(.t 38), (.t 40)]), []⟩,
    ⟨(some 42), none, .q (.fa 1 (.t 8)), []⟩,
    ⟨none, none, .e (.store 1 (.t 42) (.t 41)), []⟩]
def c33_14 : ACode := .ops [
    ⟨(some 43), none, .q (.mv (.t 6)), []⟩,
    ⟨(some 44), none, .q (.ld (some 2) (.t 8)), []⟩,
    ⟨(some 45), none, .q (.bsl 2 [(.t 44)]), []⟩,
    ⟨(some 46), none, .e (.app 2 16 [(.int .u64 0), (.int .u64 0)] (.t 43) (.t 45)), []⟩,
    ⟨(some 6), none, .q (.mv (.t 46)), []⟩]
def c33_15 : ACode := .seq c33_13 c33_14
def c33_16 : ACode := .seq c33_12 c33_15
def c33_17 : ACode := .seq c33_7 c33_16
def c33_18 : ACode := .block 1 c33_17
def c33_19 : ACode := .ops [
    ⟨(some 22), none, .q (.mv (.t 7)), []⟩,
    ⟨(some 23), none, .q (.bin .add (.t 22) (.v (.int .i64 1))), []⟩,
    ⟨(some 7), none, .q (.mv (.t 23)), []⟩]
def c33_20 : ACode := .seq c33_18 c33_19
def c33_21 : ACode := .seq c33_6 c33_20
def c33_22 : ACode := .loop c33_21
def c33_23 : ACode := .block 0 c33_22
def c33_24 : ACode := .seq c33_3 c33_23
def c33_25 : ACode := .ops [
    ⟨(some 47), none, .q (.mv (.t 0)), []⟩,
    ⟨(some 48), none, .q (.nc (.t 47)), []⟩,
    ⟨(some 49), none, .q (.fa 2 (.t 48)), []⟩,
    ⟨(some 50), none, .q (.ld none (.t 49)), []⟩,
    ⟨(some 51), none, .q (.bin .neq (.t 50) (.v (.int .i64 0))), []⟩]
def c33_26 : ACode := .ops [
    ⟨(some 4), none, .q (.mv (.v (.sl .full []))), []⟩]
def c33_27 : ACode := .seq c33_26 .ret
def c33_28 : ACode := .cond (.t 51) c33_27 .skip
def c33_29 : ACode := .seq c33_25 c33_28
def c33_30 : ACode := .ops [
    ⟨(some 52), none, .q (.mv (.t 6)), []⟩,
    ⟨(some 4), none, .q (.mv (.t 52)), []⟩]
def c33_31 : ACode := .seq c33_30 .ret
def c33_32 : ACode := .seq c33_29 c33_31
def c33_33 : ACode := .seq c33_24 c33_32
def c33_34 : ACode := .seq c33_2 c33_33
def c33_35 : ACode := .seq c33_1 c33_34
def c33_36 : ACode := .seq c33_0 c33_35
@[go_sem] theorem c33_0_wp (P : Program) (Q : APost) (a : AFr) (σ : ASt) : c33_0.wp P Q a σ = ACode.wp P (.ops [
    ⟨(some 4), none, .q (.mv (.v (.sl .full []))), []⟩]) Q a σ := id rfl
@[go_sem] theorem c33_1_wp (P : Program) (Q : APost) (a : AFr) (σ : ASt) : c33_1.wp P Q a σ = ACode.wp P (.ops [
    ⟨(some 9), none, .q (.mv (.t 0)), []⟩,
    ⟨(some 10), none, .q (.mv (.t 1)), []⟩,
    ⟨(some 11), none, .e (.call 49 [(.t 9), (.t 10)]), []⟩,
    ⟨(some 5), none, .q (.mv (.t 11)), []⟩]) Q a σ := id rfl
@[go_sem] theorem c33_2_wp (P : Program) (Q : APost) (a : AFr) (σ : ASt) : c33_2.wp P Q a σ = ACode.wp P (.ops [
    ⟨(some 6), none, .q (.mv (.v (.sl .full []))), []⟩]) Q a σ := id rfl
@[go_sem] theorem c33_3_wp (P : Program) (Q : APost) (a : AFr) (σ : ASt) : c33_3.wp P Q a σ = ACode.wp P (.ops [
    ⟨(some 7), none, .q (.mv (.v (.int .i64 0))), []⟩]) Q a σ := id rfl
@[go_sem] theorem c33_4_wp (P : Program) (Q : APost) (a : AFr) (σ : ASt) : c33_4.wp P Q a σ = ACode.wp P (.ops [
    ⟨(some 12), none, .q (.mv (.t 7)), []⟩,
    ⟨(some 13), none, .q (.mv (.t 5)), []⟩,
    ⟨(some 14), none, .q (.bin .lss (.t 12) (.t 13)), []⟩,
    ⟨(some 15), none, .q (.mv (.t 14)), []⟩,
    ⟨(some 16), (some (15, true)), .q (.mv (.t 0)), []⟩,
    ⟨(some 17), (some (15, true)), .q (.nc (.t 16)), []⟩,
    ⟨(some 18), (some (15, true)), .q (.fa 2 (.t 17)), []⟩,
    ⟨(some 19), (some (15, true)), .q (.ld none (.t 18)), []⟩,
    ⟨(some 20), (some (15, true)), .q (.bin .eql (.t 19) (.v (.int .i64 0))), []⟩,
    ⟨(some 21), none, .q (.pick (.t 15) (.t 20) (.v (.bool false))), []⟩]) Q a σ := id rfl
@[go_sem] theorem c33_5_wp (P : Program) (Q : APost) (a : AFr) (σ : ASt) : c33_5.wp P Q a σ = ACode.wp P (.cond (.t 21) .skip (.exit 0)) Q a σ := id rfl
@[go_sem] theorem c33_6_wp (P : Program) (Q : APost) (a : AFr) (σ : ASt) : c33_6.wp P Q a σ = ACode.wp P (.seq c33_4 c33_5) Q a σ := id rfl
@[go_sem] theorem c33_7_wp (P : Program) (Q : APost) (a : AFr) (σ : ASt) : c33_7.wp P Q a σ = ACode.wp P (.ops [
    ⟨(some 8), none, .e (.alloc [(.int .u64 0), (.int .u64 0)]), []⟩]) Q a σ := id rfl
@[go_sem] theorem c33_8_wp (P : Program) (Q : APost) (a : AFr) (σ : ASt) : c33_8.wp P Q a σ = ACode.wp P (.ops [
    ⟨(some 24), none, .q (.mv (.t 7)), []⟩,
    ⟨(some 25), none, .q (.bin .eql (.t 24) (.v (.int .i64 0))), []⟩]) Q a σ := id rfl
@[go_sem] theorem c33_9_wp (P : Program) (Q : APost) (a : AFr) (σ : ASt) : c33_9.wp P Q a σ = ACode.wp P (.ops [
    ⟨(some 26), none, .q (.mv (.t 0)), []⟩,
    ⟨(some 27), none, .e (.call 28 [(.t 26)]), []⟩,
    ⟨(some 28), none, .q (.fa 0 (.t 8)), []⟩,
    ⟨none, none, .e (.store 1 (.t 28) (.t 27)), []⟩]) Q a σ := id rfl
@[go_sem] theorem c33_10_wp (P : Program) (Q : APost) (a : AFr) (σ : ASt) : c33_10.wp P Q a σ = ACode.wp P (.ops [
    ⟨(some 29), none, .q (.mv (.t 0)), []⟩,
    ⟨(some 30), none, .q (.mv (.t 6)), []⟩,
    ⟨(some 31), none, .q (.mv (.t 7)), []⟩,
    ⟨(some 32), none, .q (.bin .sub (.t 31) (.v (.int .i64 1))), []⟩,
    ⟨(some 33), none, .q (.ia 2 (.t 30) (.t 32)), []⟩,
    ⟨(some 34), none, .q (.fa 1 (.t 33)), []⟩,
    ⟨(some 35), none, .q (.ld none (.t 34)), []⟩,
    ⟨(some 36), none, .e (.call 50 [(.t 29), (.t 35)]), []⟩,
    ⟨(some 37), none, .q (.fa 0 (.t 8)), []⟩,
    ⟨none, none, .e (.store 1 (.t 37) (.t 36)), []⟩]) Q a σ := id rfl
@[go_sem] theorem c33_11_wp (P : Program) (Q : APost) (a : AFr) (σ : ASt) : c33_11.wp P Q a σ = ACode.wp P (.cond (.t 25) c33_9 c33_10) Q a σ := id rfl
@[go_sem] theorem c33_12_wp (P : Program) (Q : APost) (a : AFr) (σ : ASt) : c33_12.wp P Q a σ = ACode.wp P (.seq c33_8 c33_11) Q a σ := id rfl
@[go_sem] theorem c33_13_wp (P : Program) (Q : APost) (a : AFr) (σ : ASt) : c33_13.wp P Q a σ = ACode.wp P (.ops [
    ⟨(some 38), none, .q (.mv (.t 0)), []⟩,
    ⟨(some 39), none, .q (.fa 0 (.t 8)), []⟩,
    ⟨(some 40), none, .q (.ld none (.t 39)), []⟩,
    ⟨(some 41), none, .e (.call 50 [(.t 38), (.t 40)]), []⟩,
    ⟨(some 42), none, .q (.fa 1 (.t 8)), []⟩,
    ⟨none, none, .e (.store 1 (.t 42) (.t 41)), []⟩]) Q a σ := id rfl
@[go_sem] theorem c33_14_wp (P : Program) (Q : APost) (a : AFr) (σ : ASt) : c33_14.wp P Q a σ = ACode.wp P (.ops [
    ⟨(some 43), none, .q (.mv (.t 6)), []⟩,
    ⟨(some 44), none, .q (.ld (some 2) (.t 8)), []⟩,
    ⟨(some 45), none, .q (.bsl 2 [(.t 44)]), []⟩,
    ⟨(some 46), none, .e (.app 2 16 [(.int .u64 0), (.int .u64 0)] (.t 43) (.t 45)), []⟩,
    ⟨(some 6), none, .q (.mv (.t 46)), []⟩]) Q a σ := id rfl
@[go_sem] theorem c33_15_wp (P : Program) (Q : APost) (a : AFr) (σ : ASt) : c33_15.wp P Q a σ = ACode.wp P (.seq c33_13 c33_14) Q a σ := id rfl
@[go_sem] theorem c33_16_wp (P : Program) (Q : APost) (a : AFr) (σ : ASt) : c33_16.wp P Q a σ = ACode.wp P (.seq c33_12 c33_15) Q a σ := id rfl
@[go_sem] theorem c33_17_wp (P : Program) (Q : APost) (a : AFr) (σ : ASt) : c33_17.wp P Q a σ = ACode.wp P (.seq c33_7 c33_16) Q a σ := id rfl
@[go_sem] theorem c33_18_wp (P : Program) (Q : APost) (a : AFr) (σ : ASt) : c33_18.wp P Q a σ = ACode.wp P (.block 1 c33_17) Q a σ := id rfl
@[go_sem] theorem c33_19_wp (P : Program) (Q : APost) (a : AFr) (σ : ASt) : c33_19.wp P Q a σ = ACode.wp P (.ops [
    ⟨(some 22), none, .q (.mv (.t 7)), []⟩,
    ⟨(some 23), none, .q (.bin .add (.t 22) (.v (.int .i64 1))), []⟩,
    ⟨(some 7), none, .q (.mv (.t 23)), []⟩]) Q a σ := id rfl
@[go_sem] theorem c33_20_wp (P : Program) (Q : APost) (a : AFr) (σ : ASt) : c33_20.wp P Q a σ = ACode.wp P (.seq c33_18 c33_19) Q a σ := id rfl
@[go_sem] theorem c33_21_wp (P : Program) (Q : APost) (a : AFr) (σ : ASt) : c33_21.wp P Q a σ = ACode.wp P (.seq c33_6 c33_20) Q a σ := id rfl
@[go_sem] theorem c33_22_wp (P : Program) (Q : APost) (a : AFr) (σ : ASt) : c33_22.wp P Q a σ = ACode.wp P (.loop c33_21) Q a σ := id rfl
@[go_sem] theorem c33_23_wp (P : Program) (Q : APost) (a : AFr) (σ : ASt) : c33_23.wp P Q a σ = ACode.wp P (.block 0 c33_22) Q a σ := id rfl
@[go_sem] theorem c33_24_wp (P : Program) (Q : APost) (a : AFr) (σ : ASt) : c33_24.wp P Q a σ = ACode.wp P (.seq c33_3 c33_23) Q a σ := id rfl
@[go_sem] theorem c33_25_wp (P : Program) (Q : APost) (a : AFr) (σ : ASt) : c33_25.wp P Q a σ = ACode.wp P (.ops [
    ⟨(some 47), none, .q (.mv (.t 0)), []⟩,
    ⟨(some 48), none, .q (.nc (.t 47)), []⟩,
    ⟨(some 49), none, .q (.fa 2 (.t 48)), []⟩,
    ⟨(some 50), none, .q (.ld none (.t 49)), []⟩,
    ⟨(some 51), none, .q (.bin .neq (.t 50) (.v (.int .i64 0))), []⟩]) Q a σ := id rfl
@[go_sem] theorem c33_26_wp (P : Program) (Q : APost) (a : AFr) (σ : ASt) : c33_26.wp P Q a σ = ACode.wp P (.ops [
    ⟨(some 4), none, .q (.mv (.v (.sl .full []))), []⟩]) Q a σ := id rfl
@[go_sem] theorem c33_27_wp (P : Program) (Q : APost) (a : AFr) (σ : ASt) : c33_27.wp P Q a σ = ACode.wp P (.seq c33_26 .ret) Q a σ := id rfl
@[go_sem] theorem c33_28_wp (P : Program) (Q : APost) (a : AFr) (σ : ASt) : c33_28.wp P Q a σ = ACode.wp P (.cond (.t 51) c33_27 .skip) Q a σ := id rfl
@[go_sem] theorem c33_29_wp (P : Program) (Q : APost) (a : AFr) (σ : ASt) : c33_29.wp P Q a σ = ACode.wp P (.seq c33_25 c33_28) Q a σ := id rfl
@[go_sem] theorem c33_30_wp (P : Program) (Q : APost) (a : AFr) (σ : ASt) : c33_30.wp P Q a σ = ACode.wp P (.ops [
    ⟨(some 52), none, .q (.mv (.t 6)), []⟩,
    ⟨(some 4), none, .q (.mv (.t 52)), []⟩]) Q a σ := id rfl
@[go_sem] theorem c33_31_wp (P : Program) (Q : APost) (a : AFr) (σ : ASt) : c33_31.wp P Q a σ = ACode.wp P (.seq c33_30 .ret) Q a σ := id rfl
@[go_sem] theorem c33_32_wp (P : Program) (Q : APost) (a : AFr) (σ : ASt) : c33_32.wp P Q a σ = ACode.wp P (.seq c33_29 c33_31) Q a σ := id rfl
@[go_sem] theorem c33_33_wp (P : Program) (Q : APost) (a : AFr) (σ : ASt) : c33_33.wp P Q a σ = ACode.wp P (.seq c33_24 c33_32) Q a σ := id rfl
@[go_sem] theorem c33_34_wp (P : Program) (Q : APost) (a : AFr) (σ : ASt) : c33_34.wp P Q a σ = ACode.wp P (.seq c33_2 c33_33) Q a σ := id rfl
@[go_sem] theorem c33_35_wp (P : Program) (Q : APost) (a : AFr) (σ : ASt) : c33_35.wp P Q a σ = ACode.wp P (.seq c33_1 c33_34) Q a σ := id rfl
@[go_sem] theorem c33_36_wp (P : Program) (Q : APost) (a : AFr) (σ : ASt) : c33_36.wp P Q a σ = ACode.wp P (.seq c33_0 c33_35) Q a σ := id rfl
def c33 : AFn := ⟨53, [.t 4], c33_36⟩
set_option maxRecDepth 100000 in
theorem c33_ok : compF Try.prog Try.f33 = some c33 := by kernel_rfl
theorem a33 {args : List AV} {σ : ASt} {R : AV → ASt → Prop} (hl : args.length ≤ 53) (h : c33_36.wp Try.prog (RetQ [.t 4] R) (init args) σ) : ACalls Try.prog 33 args σ R := acalls_of Try.func33 c33_ok hl h

/-! 34: tabular/tabularref02.Spans -/
def c34_0 : ACode := .ops [
    ⟨(some 2), none, .q (.mv (.v (.str []))), []⟩]
def c34_1 : ACode := .ops [
    ⟨(some 7), none, .q (.mv (.t 0)), []⟩,
    ⟨(some 8), none, .q (.len (.t 7)), []⟩,
    ⟨(some 9), none, .q (.conv .u64 (.t 8)), []⟩,
    ⟨(some 10), none, .e (.call 30 [(.t 9)]), []⟩,
    ⟨(some 3), none, .q (.mv (.t 10)), []⟩]
def c34_2 : ACode := .ops [
    ⟨(some 11), none, .q (.mv (.t 0)), []⟩,
    ⟨(some 12), none, .q (.len (.t 11)), []⟩,
    ⟨(some 13), none, .q (.mv (.v (.int .i64 0))), []⟩]
def c34_3 : ACode := .ops [
    ⟨(some 14), none, .q (.bin .lss (.t 13) (.t 12)), []⟩]
def c34_4 : ACode := .cond (.t 14) .skip (.exit 0)
def c34_5 : ACode := .ops [
    ⟨(some 15), none, .q (.mv (.t 13)), []⟩,
    ⟨(some 16), none, .q (.ia 2 (.t 11) (.t 13)), []⟩,
    ⟨(some 17), none, .q (.ld (some 2) (.t 16)), []⟩,
    ⟨(some 5), none, .e (.alloc [(.int .u64 0), (.int .u64 0)]), []⟩,
    ⟨(some 4), none, .q (.mv (.t 15)), []⟩,
    ⟨none, none, .e (.store 2 (.t 5) (.t 17)), []⟩]
def c34_6 : ACode := .ops [
    ⟨(some 18), none, .q (.fa 0 (.t 5)), []⟩,
    ⟨(some 19), none, .q (.ld none (.t 18)), []⟩,
    ⟨(some 6), none, .q (.mv (.t 19)), []⟩]
def c34_7 : ACode := .ops [
    ⟨(some 20), none, .q (.mv (.t 4)), []⟩,
    ⟨(some 21), none, .q (.bin .gtr (.t 20) (.v (.int .i64 0))), []⟩]
def c34_8 : ACode := .ops [
    ⟨(some 22), none, .q (.fa 0 (.t 5)), []⟩,
    ⟨(some 23), none, .q (.ld none (.t 22)), []⟩,
    ⟨(some 24), none, .q (.mv (.t 0)), []⟩,
    ⟨(some 25), none, .q (.mv (.t 4)), []⟩,
    ⟨(some 26), none, .q (.bin .sub (.t 25) (.v (.int .i64 1))), []⟩,
    ⟨(some 27), none, .q (.ia 2 (.t 24) (.t 26)), []⟩,
    ⟨(some 28), none, .q (.fa 1 (.t 27)), []⟩,
    ⟨(some 29), none, .q (.ld none (.t 28)), []⟩,
    ⟨(some 30), none, .q (.bin .sub (.t 23) (.t 29)), []⟩,
    ⟨(some 31), none, .q (.bin .sub (.t 30) (.v (.int .u64 1))), []⟩,
    ⟨(some 6), none, .q (.mv (.t 31)), []⟩]
def c34_9 : ACode := .cond (.t 21) c34_8 .skip
def c34_10 : ACode := .seq c34_7 c34_9
def c34_11 : ACode := .ops [
    ⟨(some 32), none, .q (.mv (.t 3)), []⟩,
    ⟨(some 33), none, .q (.mv (.t 6)), []⟩,
    ⟨(some 35), none, .q (.fa 1 (.t 5)), []⟩,
    ⟨(some 36), none, .q (.ld none (.t 35)), []⟩,
    ⟨(some 37), none, .q (.fa 0 (.t 5)), []⟩,
    ⟨(some 38), none, .q (.ld none (.t 37)), []⟩,
    ⟨(some 39), none, .q (.bin .sub (.t 36) (.t 38)), []⟩,
    ⟨(some 40), none, .q (.bin .sub (.t 39) (.v (.int .u64 1))), []⟩,
    ⟨(some 34), none, .e (.call 30 [(.t 33)]), [⟨none, .ld none (.t 35), 36⟩, ⟨none, .ld none (.t 37), 38⟩]⟩,
    ⟨(some 41), none, .e (.call 30 [(.t 40)]), []⟩,
    ⟨(some 42), none, .q (.bin .add (.t 34) (.t 41)), []⟩,
    ⟨(some 43), none, .q (.bin .add (.t 32) (.t 42)), []⟩,
    ⟨(some 3), none, .q (.mv (.t 43)), []⟩]
def c34_12 : ACode := .seq c34_10 c34_11
def c34_13 : ACode := .seq c34_6 c34_12
def c34_14 : ACode := .seq c34_5 c34_13
def c34_15 : ACode := .block 1 c34_14
def c34_16 : ACode := .ops [
    ⟨(some 44), none, .q (.bin .add (.t 13) (.v (.int .i64 1))), []⟩,
    ⟨(some 13), none, .q (.mv (.t 44)), []⟩]
def c34_17 : ACode := .seq c34_15 c34_16
def c34_18 : ACode := .seq c34_4 c34_17
def c34_19 : ACode := .seq c34_3 c34_18
def c34_20 : ACode := .loop c34_19
def c34_21 : ACode := .block 0 c34_20
def c34_22 : ACode := .seq c34_2 c34_21
def c34_23 : ACode := .ops [
    ⟨(some 45), none, .q (.mv (.t 3)), []⟩,
    ⟨(some 2), none, .q (.mv (.t 45)), []⟩]
def c34_24 : ACode := .seq c34_23 .ret
def c34_25 : ACode := .seq c34_22 c34_24
def c34_26 : ACode := .seq c34_1 c34_25
def c34_27 : ACode := .seq c34_0 c34_26
@[go_sem] theorem c34_0_wp (P : Program) (Q : APost) (a : AFr) (σ : ASt) : c34_0.wp P Q a σ = ACode.wp P (.ops [
    ⟨(some 2), none, .q (.mv (.v (.str []))), []⟩]) Q a σ := id rfl
@[go_sem] theorem c34_1_wp (P : Program) (Q : APost) (a : AFr) (σ : ASt) : c34_1.wp P Q a σ = ACode.wp P (.ops [
    ⟨(some 7), none, .q (.mv (.t 0)), []⟩,
    ⟨(some 8), none, .q (.len (.t 7)), []⟩,
    ⟨(some 9), none, .q (.conv .u64 (.t 8)), []⟩,
    ⟨(some 10), none, .e (.call 30 [(.t 9)]), []⟩,
    ⟨(some 3), none, .q (.mv (.t 10)), []⟩]) Q a σ := id rfl
@[go_sem] theorem c34_2_wp (P : Program) (Q : APost) (a : AFr) (σ : ASt) : c34_2.wp P Q a σ = ACode.wp P (.ops [
    ⟨(some 11), none, .q (.mv (.t 0)), []⟩,
    ⟨(some 12), none, .q (.len (.t 11)), []⟩,
    ⟨(some 13), none, .q (.mv (.v (.int .i64 0))), []⟩]) Q a σ := id rfl
@[go_sem] theorem c34_3_wp (P : Program) (Q : APost) (a : AFr) (σ : ASt) : c34_3.wp P Q a σ = ACode.wp P (.ops [
    ⟨(some 14), none, .q (.bin .lss (.t 13) (.t 12)), []⟩]) Q a σ := id rfl
@[go_sem] theorem c34_4_wp (P : Program) (Q : APost) (a : AFr) (σ : ASt) : c34_4.wp P Q a σ = ACode.wp P (.cond (.t 14) .skip (.exit 0)) Q a σ := id rfl
@[go_sem] theorem c34_5_wp (P : Program) (Q : APost) (a : AFr) (σ : ASt) : c34_5.wp P Q a σ = ACode.wp P (.ops [
    ⟨(some 15), none, .q (.mv (.t 13)), []⟩,
    ⟨(some 16), none, .q (.ia 2 (.t 11) (.t 13)), []⟩,
    ⟨(some 17), none, .q (.ld (some 2) (.t 16)), []⟩,
    ⟨(some 5), none, .e (.alloc [(.int .u64 0), (.int .u64 0)]), []⟩,
    ⟨(some 4), none, .q (.mv (.t 15)), []⟩,
    ⟨none, none, .e (.store 2 (.t 5) (.t 17)), []⟩]) Q a σ := id rfl
@[go_sem] theorem c34_6_wp (P : Program) (Q : APost) (a : AFr) (σ : ASt) : c34_6.wp P Q a σ = ACode.wp P (.ops [
    ⟨(some 18), none, .q (.fa 0 (.t 5)), []⟩,
    ⟨(some 19), none, .q (.ld none (.t 18)), []⟩,
    ⟨(some 6), none, .q (.mv (.t 19)), []⟩]) Q a σ := id rfl
@[go_sem] theorem c34_7_wp (P : Program) (Q : APost) (a : AFr) (σ : ASt) : c34_7.wp P Q a σ = ACode.wp P (.ops [
    ⟨(some 20), none, .q (.mv (.t 4)), []⟩,
    ⟨(some 21), none, .q (.bin .gtr (.t 20) (.v (.int .i64 0))), []⟩]) Q a σ := id rfl
@[go_sem] theorem c34_8_wp (P : Program) (Q : APost) (a : AFr) (σ : ASt) : c34_8.wp P Q a σ = ACode.wp P (.ops [
    ⟨(some 22), none, .q (.fa 0 (.t 5)), []⟩,
    ⟨(some 23), none, .q (.ld none (.t 22)), []⟩,
    ⟨(some 24), none, .q (.mv (.t 0)), []⟩,
    ⟨(some 25), none, .q (.mv (.t 4)), []⟩,
    ⟨(some 26), none, .q (.bin .sub (.t 25) (.v (.int .i64 1))), []⟩,
    ⟨(some 27), none, .q (.ia 2 (.t 24) (.t 26)), []⟩,
    ⟨(some 28), none, .q (.fa 1 (.t 27)), []⟩,
    ⟨(some 29), none, .q (.ld none (.t 28)), []⟩,
    ⟨(some 30), none, .q (.bin .sub (.t 23) (.t 29)), []⟩,
    ⟨(some 31), none, .q (.bin .sub (.t 30) (.v (.int .u64 1))), []⟩,
    ⟨(some 6), none, .q (.mv (.t 31)), []⟩]) Q a σ := id rfl
@[go_sem] theorem c34_9_wp (P : Program) (Q : APost) (a : AFr) (σ : ASt) : c34_9.wp P Q a σ = ACode.wp P (.cond (.t 21) c34_8 .skip) Q a σ := id rfl
@[go_sem] theorem c34_10_wp (P : Program) (Q : APost) (a : AFr) (σ : ASt) : c34_10.wp P Q a σ = ACode.wp P (.seq c34_7 c34_9) Q a σ := id rfl
@[go_sem] theorem c34_11_wp (P : Program) (Q : APost) (a : AFr) (σ : ASt) : c34_11.wp P Q a σ = ACode.wp P (.ops [
    ⟨(some 32), none, .q (.mv (.t 3)), []⟩,
    ⟨(some 33), none, .q (.mv (.t 6)), []⟩,
    ⟨(some 35), none, .q (.fa 1 (.t 5)), []⟩,
    ⟨(some 36), none, .q (.ld none (.t 35)), []⟩,
    ⟨(some 37), none, .q (.fa 0 (.t 5)), []⟩,
    ⟨(some 38), none, .q (.ld none (.t 37)), []⟩,
    ⟨(some 39), none, .q (.bin .sub (.t 36) (.t 38)), []⟩,
    ⟨(some 40), none, .q (.bin .sub (.t 39) (.v (.int .u64 1))), []⟩,
    ⟨(some 34), none, .e (.call 30 [(.t 33)]), [⟨none, .ld none (.t 35), 36⟩, ⟨none, .ld none (.t 37), 38⟩]⟩,
    ⟨(some 41), none, .e (.call 30 [(.t 40)]), []⟩,
    ⟨(some 42), none, .q (.bin .add (.t 34) (.t 41)), []⟩,
    ⟨(some 43), none, .q (.bin .add (.t 32) (.t 42)), []⟩,
    ⟨(some 3), none, .q (.mv (.t 43)), []⟩]) Q a σ := id rfl
@[go_sem] theorem c34_12_wp (P : Program) (Q : APost) (a : AFr) (σ : ASt) : c34_12.wp P Q a σ = ACode.wp P (.seq c34_10 c34_11) Q a σ := id rfl
@[go_sem] theorem c34_13_wp (P : Program) (Q : APost) (a : AFr) (σ : ASt) : c34_13.wp P Q a σ = ACode.wp P (.seq c34_6 c34_12) Q a σ := id rfl
@[go_sem] theorem c34_14_wp (P : Program) (Q : APost) (a : AFr) (σ : ASt) : c34_14.wp P Q a σ = ACode.wp P (.seq c34_5 c34_13) Q a σ := id rfl
@[go_sem] theorem c34_15_wp (P : Program) (Q : APost) (a : AFr) (σ : ASt) : c34_15.wp P Q a σ = ACode.wp P (.block 1 c34_14) Q a σ := id rfl
@[go_sem] theorem c34_16_wp (P : Program) (Q : APost) (a : AFr) (σ : ASt) : c34_16.wp P Q a σ = ACode.wp P (.ops [
    ⟨(some 44), none, .q (.bin .add (.t 13) (.v (.int .i64 1))), []⟩,
    ⟨(some 13), none, .q (.mv (.t 44)), []⟩]) Q a σ := id rfl
@[go_sem] theorem c34_17_wp (P : Program) (Q : APost) (a : AFr) (σ : ASt) : c34_17.wp P Q a σ = ACode.wp P (.seq c34_15 c34_16) Q a σ := id rfl
@[go_sem] theorem c34_18_wp (P : Program) (Q : APost) (a : AFr) (σ : ASt) : c34_18.wp P Q a σ = ACode.wp P (.seq c34_4 c34_17) Q a σ := id rfl
@[go_sem] theorem c34_19_wp (P : Program) (Q : APost) (a : AFr) (σ : ASt) : c34_19.wp P Q a σ = ACode.wp P (.seq c34_3 c34_18) Q a σ := id rfl
@[go_sem] theorem c34_20_wp (P : Program) (Q : APost) (a : AFr) (σ : ASt) : c34_20.wp P Q a σ = ACode.wp P (.loop c34_19) Q a σ := id rfl
@[go_sem] theorem c34_21_wp (P : Program) (Q : APost) (a : AFr) (σ : ASt) : c34_21.wp P Q a σ = ACode.wp P (.block 0 c34_20) Q a σ := id rfl
@[go_sem] theorem c34_22_wp (P : Program) (Q : APost) (a : AFr) (σ : ASt) : c34_22.wp P Q a σ = ACode.wp P (.seq c34_2 c34_21) Q a σ := id rfl
@[go_sem] theorem c34_23_wp (P : Program) (Q : APost) (a : AFr) (σ : ASt) : c34_23.wp P Q a σ = ACode.wp P (.ops [
    ⟨(some 45), none, .q (.mv (.t 3)), []⟩,
    ⟨(some 2), none, .q (.mv (.t 45)), []⟩]) Q a σ := id rfl
@[go_sem] theorem c34_24_wp (P : Program) (Q : APost) (a : AFr) (σ : ASt) : c34_24.wp P Q a σ = ACode.wp P (.seq c34_23 .ret) Q a σ := id rfl
@[go_sem] theorem c34_25_wp (P : Program) (Q : APost) (a : AFr) (σ : ASt) : c34_25.wp P Q a σ = ACode.wp P (.seq c34_22 c34_24) Q a σ := id rfl
@[go_sem] theorem c34_26_wp (P : Program) (Q : APost) (a : AFr) (σ : ASt) : c34_26.wp P Q a σ = ACode.wp P (.seq c34_1 c34_25) Q a σ := id rfl
@[go_sem] theorem c34_27_wp (P : Program) (Q : APost) (a : AFr) (σ : ASt) : c34_27.wp P Q a σ = ACode.wp P (.seq c34_0 c34_26) Q a σ := id rfl
def c34 : AFn := ⟨46, [.t 2], c34_27⟩
set_option maxRecDepth 100000 in
theorem c34_ok : compF Try.prog Try.f34 = some c34 := by kernel_rfl
theorem a34 {args : List AV} {σ : ASt} {R : AV → ASt → Prop} (hl : args.length ≤ 46) (h : c34_27.wp Try.prog (RetQ [.t 2] R) (init args) σ) : ACalls Try.prog 34 args σ R := acalls_of Try.func34 c34_ok hl h

/-! 35: (*tabular/vint.Reader).Int -/
def c35_0 : ACode := .ops [
    ⟨(some 2), none, .q (.mv (.v (.int .i64 0))), []⟩]
def c35_1 : ACode := .ops [
    ⟨(some 4), none, .q (.mv (.t 0)), []⟩,
    ⟨(some 5), none, .e (.call 28 [(.t 4)]), []⟩,
    ⟨(some 3), none, .q (.mv (.t 5)), []⟩]
def c35_2 : ACode := .ops [
    ⟨(some 6), none, .q (.mv (.t 3)), []⟩,
    ⟨(some 7), none, .q (.bin .shr (.t 6) (.v (.int .u64 1))), []⟩,
    ⟨(some 8), none, .q (.conv .i64 (.t 7)), []⟩,
    ⟨(some 9), none, .q (.mv (.t 3)), []⟩,
    ⟨(some 10), none, .q (.bin .and (.t 9) (.v (.int .u64 1))), []⟩,
    ⟨(some 11), none, .q (.conv .i64 (.t 10)), []⟩,
    ⟨(some 12), none, .q (.un .neg (.t 11)), []⟩,
    ⟨(some 13), none, .q (.bin .xor (.t 8) (.t 12)), []⟩,
    ⟨(some 2), none, .q (.mv (.t 13)), []⟩]
def c35_3 : ACode := .seq c35_2 .ret
def c35_4 : ACode := .seq c35_1 c35_3
def c35_5 : ACode := .seq c35_0 c35_4
@[go_sem] theorem c35_0_wp (P : Program) (Q : APost) (a : AFr) (σ : ASt) : c35_0.wp P Q a σ = ACode.wp P (.ops [
    ⟨(some 2), none, .q (.mv (.v (.int .i64 0))), []⟩]) Q a σ := id rfl
@[go_sem] theorem c35_1_wp (P : Program) (Q : APost) (a : AFr) (σ : ASt) : c35_1.wp P Q a σ = ACode.wp P (.ops [
    ⟨(some 4), none, .q (.mv (.t 0)), []⟩,
    ⟨(some 5), none, .e (.call 28 [(.t 4)]), []⟩,
    ⟨(some 3), none, .q (.mv (.t 5)), []⟩]) Q a σ := id rfl
@[go_sem] theorem c35_2_wp (P : Program) (Q : APost) (a : AFr) (σ : ASt) : c35_2.wp P Q a σ = ACode.wp P (.ops [
    ⟨(some 6), none, .q (.mv (.t 3)), []⟩,
    ⟨(some 7), none, .q (.bin .shr (.t 6) (.v (.int .u64 1))), []⟩,
    ⟨(some 8), none, .q (.conv .i64 (.t 7)), []⟩,
    ⟨(some 9), none, .q (.mv (.t 3)), []⟩,
    ⟨(some 10), none, .q (.bin .and (.t 9) (.v (.int .u64 1))), []⟩,
    ⟨(some 11), none, .q (.conv .i64 (.t 10)), []⟩,
    ⟨(some 12), none, .q (.un .neg (.t 11)), []⟩,
    ⟨(some 13), none, .q (.bin .xor (.t 8) (.t 12)), []⟩,
    ⟨(some 2), none, .q (.mv (.t 13)), []⟩]) Q a σ := id rfl
@[go_sem] theorem c35_3_wp (P : Program) (Q : APost) (a : AFr) (σ : ASt) : c35_3.wp P Q a σ = ACode.wp P (.seq c35_2 .ret) Q a σ := id rfl
@[go_sem] theorem c35_4_wp (P : Program) (Q : APost) (a : AFr) (σ : ASt) : c35_4.wp P Q a σ = ACode.wp P (.seq c35_1 c35_3) Q a σ := id rfl
@[go_sem] theorem c35_5_wp (P : Program) (Q : APost) (a : AFr) (σ : ASt) : c35_5.wp P Q a σ = ACode.wp P (.seq c35_0 c35_4) Q a σ := id rfl
def c35 : AFn := ⟨14, [.t 2], c35_5⟩
set_option maxRecDepth 100000 in
theorem c35_ok : compF Try.prog Try.f35 = some c35 := by kernel_rfl
theorem a35 {args : List AV} {σ : ASt} {R : AV → ASt → Prop} (hl : args.length ≤ 14) (h : c35_5.wp Try.prog (RetQ [.t 2] R) (init args) σ) : ACalls Try.prog 35 args σ R := acalls_of Try.func35 c35_ok hl h

/-! 36: (*tabular/vint.Reader).Text -/
def c36_0 : ACode := .ops [
    ⟨(some 4), none, .q (.mv (.v (.str []))), []⟩]
def c36_1 : ACode := .ops [
    ⟨(some 6), none, .q (.mv (.t 0)), []⟩,
    ⟨(some 7), none, .e (.call 28 [(.t 6)]), []⟩,
    ⟨(some 5), none, .q (.mv (.t 7)), []⟩]
def c36_2 : ACode := .ops [
    ⟨(some 8), none, .q (.mv (.t 0)), []⟩,
    ⟨(some 9), none, .q (.nc (.t 8)), []⟩,
    ⟨(some 10), none, .q (.fa 2 (.t 9)), []⟩,
    ⟨(some 11), none, .q (.ld none (.t 10)), []⟩,
    ⟨(some 12), none, .q (.bin .eql (.t 11) (.v (.int .i64 0))), []⟩,
    ⟨(some 13), none, .q (.mv (.t 12)), []⟩,
    ⟨(some 14), (some (13, true)), .q (.mv (.t 5)), []⟩,
    ⟨(some 15), (some (13, true)), .q (.mv (.t 1)), []⟩,
    ⟨(some 16), (some (13, true)), .q (.mnx true (.t 15) (.v (.int .i64 0))), []⟩,
    ⟨(some 17), (some (13, true)), .q (.conv .u64 (.t 16)), []⟩,
    ⟨(some 18), (some (13, true)), .q (.bin .gtr (.t 14) (.t 17)), []⟩,
    ⟨(some 19), none, .q (.pick (.t 13) (.t 18) (.v (.bool false))), []⟩]
def c36_3 : ACode := .ops [
    ⟨(some 20), none, .q (.mv (.t 0)), []⟩,
    ⟨(some 21), none, .e (.call 48 [(.t 20), (.v (.int .i64 11))]), []⟩]
def c36_4 : ACode := .cond (.t 19) c36_3 .skip
def c36_5 : ACode := .seq c36_2 c36_4
def c36_6 : ACode := .ops [
    ⟨(some 22), none, .q (.mv (.t 0)), []⟩,
    ⟨(some 23), none, .q (.nc (.t 22)), []⟩,
    ⟨(some 24), none, .q (.fa 2 (.t 23)), []⟩,
    ⟨(some 25), none, .q (.ld none (.t 24)), []⟩,
    ⟨(some 26), none, .q (.bin .eql (.t 25) (.v (.int .i64 0))), []⟩,
    ⟨(some 27), none, .q (.mv (.t 26)), []⟩,
    ⟨(some 28), (some (27, true)), .q (.mv (.t 5)), []⟩,
    ⟨(some 29), (some (27, true)), .q (.mv (.t 0)), []⟩,
    ⟨(some 30), (some (27, true)), .q (.nc (.t 29)), []⟩,
    ⟨(some 31), (some (27, true)), .q (.fa 0 (.t 30)), []⟩,
    ⟨(some 32), (some (27, true)), .q (.ld none (.t 31)), []⟩,
    ⟨(some 33), (some (27, true)), .q (.lenS (.t 32)), []⟩,
    ⟨(some 34), (some (27, true)), .q (.mv (.t 0)), []⟩,
    ⟨(some 35), (some (27, true)), .q (.nc (.t 34)), []⟩,
    ⟨(some 36), (some (27, true)), .q (.fa 1 (.t 35)), []⟩,
    ⟨(some 37), (some (27, true)), .q (.ld none (.t 36)), []⟩,
    ⟨(some 38), (some (27, true)), .q (.bin .sub (.t 33) (.t 37)), []⟩,
    ⟨(some 39), (some (27, true)), .q (.conv .u64 (.t 38)), []⟩,
    ⟨(some 40), (some (27, true)), .q (.bin .gtr (.t 28) (.t 39)), []⟩,
    ⟨(some 41), none, .q (.pick (.t 27) (.t 40) (.v (.bool false))), []⟩]
def c36_7 : ACode := .ops [
    ⟨(some 42), none, .q (.mv (.t 0)), []⟩,
    ⟨(some 43), none, .e (.call 48 [(.t 42), (.v (.int .i64 2))]), []⟩]
def c36_8 : ACode := .cond (.t 41) c36_7 .skip
def c36_9 : ACode := .seq c36_6 c36_8
def c36_10 : ACode := .ops [
    ⟨(some 44), none, .q (.mv (.t 0)), []⟩,
    ⟨(some 45), none, .q (.nc (.t 44)), []⟩,
    ⟨(some 46), none, .q (.fa 2 (.t 45)), []⟩,
    ⟨(some 47), none, .q (.ld none (.t 46)), []⟩,
    ⟨(some 48), none, .q (.bin .neq (.t 47) (.v (.int .i64 0))), []⟩]
def c36_11 : ACode := .ops [
    ⟨(some 4), none, .q (.mv (.v (.str []))), []⟩]
def c36_12 : ACode := .seq c36_11 .ret
def c36_13 : ACode := .cond (.t 48) c36_12 .skip
def c36_14 : ACode := .seq c36_10 c36_13
def c36_15 : ACode := .ops [
    ⟨(some 49), none, .q (.mv (.t 0)), []⟩,
    ⟨(some 50), none, .q (.nc (.t 49)), []⟩,
    ⟨(some 51), none, .q (.fa 1 (.t 50)), []⟩,
    ⟨(some 52), none, .q (.ld none (.t 51)), []⟩,
    ⟨(some 53), none, .q (.mv (.t 5)), []⟩,
    ⟨(some 54), none, .q (.conv .i64 (.t 53)), []⟩,
    ⟨(some 55), none, .q (.bin .add (.t 52) (.t 54)), []⟩,
    ⟨(some 56), none, .q (.nc (.t 49)), []⟩,
    ⟨(some 57), none, .q (.fa 1 (.t 56)), []⟩,
    ⟨none, none, .e (.store 1 (.t 57) (.t 55)), []⟩]
def c36_16 : ACode := .ops [
    ⟨(some 58), none, .q (.mv (.t 0)), []⟩,
    ⟨(some 59), none, .q (.nc (.t 58)), []⟩,
    ⟨(some 60), none, .q (.fa 0 (.t 59)), []⟩,
    ⟨(some 61), none, .q (.ld none (.t 60)), []⟩,
    ⟨(some 62), none, .q (.mv (.t 0)), []⟩,
    ⟨(some 63), none, .q (.nc (.t 62)), []⟩,
    ⟨(some 64), none, .q (.fa 1 (.t 63)), []⟩,
    ⟨(some 65), none, .q (.ld none (.t 64)), []⟩,
    ⟨(some 66), none, .q (.mv (.t 5)), []⟩,
    ⟨(some 67), none, .q (.conv .i64 (.t 66)), []⟩,
    ⟨(some 68), none, .q (.bin .sub (.t 65) (.t 67)), []⟩,
    ⟨(some 69), none, .q (.mv (.t 0)), []⟩,
    ⟨(some 70), none, .q (.nc (.t 69)), []⟩,
    ⟨(some 71), none, .q (.fa 1 (.t 70)), []⟩,
    ⟨(some 72), none, .q (.ld none (.t 71)), []⟩,
    ⟨(some 73), none, .q (.sls (true, 0) (.t 61) (.t 68) (.t 72)), []⟩,
    ⟨(some 4), none, .q (.mv (.t 73)), []⟩]
def c36_17 : ACode := .seq c36_16 .ret
def c36_18 : ACode := .seq c36_15 c36_17
def c36_19 : ACode := .seq c36_14 c36_18
def c36_20 : ACode := .seq c36_9 c36_19
def c36_21 : ACode := .seq c36_5 c36_20
def c36_22 : ACode := .seq c36_1 c36_21
def c36_23 : ACode := .seq c36_0 c36_22
@[go_sem] theorem c36_0_wp (P : Program) (Q : APost) (a : AFr) (σ : ASt) : c36_0.wp P Q a σ = ACode.wp P (.ops [
    ⟨(some 4), none, .q (.mv (.v (.str []))), []⟩]) Q a σ := id rfl
@[go_sem] theorem c36_1_wp (P : Program) (Q : APost) (a : AFr) (σ : ASt) : c36_1.wp P Q a σ = ACode.wp P (.ops [
    ⟨(some 6), none, .q (.mv (.t 0)), []⟩,
    ⟨(some 7), none, .e (.call 28 [(.t 6)]), []⟩,
    ⟨(some 5), none, .q (.mv (.t 7)), []⟩]) Q a σ := id rfl
@[go_sem] theorem c36_2_wp (P : Program) (Q : APost) (a : AFr) (σ : ASt) : c36_2.wp P Q a σ = ACode.wp P (.ops [
    ⟨(some 8), none, .q (.mv (.t 0)), []⟩,
    ⟨(some 9), none, .q (.nc (.t 8)), []⟩,
    ⟨(some 10), none, .q (.fa 2 (.t 9)), []⟩,
    ⟨(some 11), none, .q (.ld none (.t 10)), []⟩,
    ⟨(some 12), none, .q (.bin .eql (.t 11) (.v (.int .i64 0))), []⟩,
    ⟨(some 13), none, .q (.mv (.t 12)), []⟩,
    ⟨(some 14), (some (13, true)), .q (.mv (.t 5)), []⟩,
    ⟨(some 15), (some (13, true)), .q (.mv (.t 1)), []⟩,
    ⟨(some 16), (some (13, true)), .q (.mnx true (.t 15) (.v (.int .i64 0))), []⟩,
    ⟨(some 17), (some (13, true)), .q (.conv .u64 (.t 16)), []⟩,
    ⟨(some 18), (some (13, true)), .q (.bin .gtr (.t 14) (.t 17)), []⟩,
    ⟨(some 19), none, .q (.pick (.t 13) (.t 18) (.v (.bool false))), []⟩]) Q a σ := id rfl
@[go_sem] theorem c36_3_wp (P : Program) (Q : APost) (a : AFr) (σ : ASt) : c36_3.wp P Q a σ = ACode.wp P (.ops [
    ⟨(some 20), none, .q (.mv (.t 0)), []⟩,
    ⟨(some 21), none, .e (.call 48 [(.t 20), (.v (.int .i64 11))]), []⟩]) Q a σ := id rfl
@[go_sem] theorem c36_4_wp (P : Program) (Q : APost) (a : AFr) (σ : ASt) : c36_4.wp P Q a σ = ACode.wp P (.cond (.t 19) c36_3 .skip) Q a σ := id rfl
@[go_sem] theorem c36_5_wp (P : Program) (Q : APost) (a : AFr) (σ : ASt) : c36_5.wp P Q a σ = ACode.wp P (.seq c36_2 c36_4) Q a σ := id rfl
@[go_sem] theorem c36_6_wp (P : Program) (Q : APost) (a : AFr) (σ : ASt) : c36_6.wp P Q a σ = ACode.wp P (.ops [
    ⟨(some 22), none, .q (.mv (.t 0)), []⟩,
    ⟨(some 23), none, .q (.nc (.t 22)), []⟩,
    ⟨(some 24), none, .q (.fa 2 (.t 23)), []⟩,
    ⟨(some 25), none, .q (.ld none (.t 24)), []⟩,
    ⟨(some 26), none, .q (.bin .eql (.t 25) (.v (.int .i64 0))), []⟩,
    ⟨(some 27), none, .q (.mv (.t 26)), []⟩,
    ⟨(some 28), (some (27, true)), .q (.mv (.t 5)), []⟩,
    ⟨(some 29), (some (27, true)), .q (.mv (.t 0)), []⟩,
    ⟨(some 30), (some (27, true)), .q (.nc (.t 29)), []⟩,
    ⟨(some 31), (some (27, true)), .q (.fa 0 (.t 30)), []⟩,
    ⟨(some 32), (some (27, true)), .q (.ld none (.t 31)), []⟩,
    ⟨(some 33), (some (27, true)), .q (.lenS (.t 32)), []⟩,
    ⟨(some 34), (some (27, true)), .q (.mv (.t 0)), []⟩,
    ⟨(some 35), (some (27, true)), .q (.nc (.t 34)), []⟩,
    ⟨(some 36), (some (27, true)), .q (.fa 1 (.t 35)), []⟩,
    ⟨(some 37), (some (27, true)), .q (.ld none (.t 36)), []⟩,
    ⟨(some 38), (some (27, true)), .q (.bin .sub (.t 33) (.t 37)), []⟩,
    ⟨(some 39), (some (27, true)), .q (.conv .u64 (.t 38)), []⟩,
    ⟨(some 40), (some (27, true)), .q (.bin .gtr (.t 28) (.t 39)), []⟩,
    ⟨(some 41), none, .q (.pick (.t 27) (.t 40) (.v (.bool false))), []⟩]) Q a σ := id rfl
@[go_sem] theorem c36_7_wp (P : Program) (Q : APost) (a : AFr) (σ : ASt) : c36_7.wp P Q a σ = ACode.wp P (.ops [
    ⟨(some 42), none, .q (.mv (.t 0)), []⟩,
    ⟨(some 43), none, .e (.call 48 [(.t 42), (.v (.int .i64 2))]), []⟩]) Q a σ := id rfl
@[go_sem] theorem c36_8_wp (P : Program) (Q : APost) (a : AFr) (σ : ASt) : c36_8.wp P Q a σ = ACode.wp P (.cond (.t 41) c36_7 .skip) Q a σ := id rfl
@[go_sem] theorem c36_9_wp (P : Program) (Q : APost) (a : AFr) (σ : ASt) : c36_9.wp P Q a σ = ACode.wp P (.seq c36_6 c36_8) Q a σ := id rfl
@[go_sem] theorem c36_10_wp (P : Program) (Q : APost) (a : AFr) (σ : ASt) : c36_10.wp P Q a σ = ACode.wp P (.ops [
    ⟨(some 44), none, .q (.mv (.t 0)), []⟩,
    ⟨(some 45), none, .q (.nc (.t 44)), []⟩,
    ⟨(some 46), none, .q (.fa 2 (.t 45)), []⟩,
    ⟨(some 47), none, .q (.ld none (.t 46)), []⟩,
    ⟨(some 48), none, .q (.bin .neq (.t 47) (.v (.int .i64 0))), []⟩]) Q a σ := id rfl
@[go_sem] theorem c36_11_wp (P : Program) (Q : APost) (a : AFr) (σ : ASt) : c36_11.wp P Q a σ = ACode.wp P (.ops [
    ⟨(some 4), none, .q (.mv (.v (.str []))), []⟩]) Q a σ := id rfl
@[go_sem] theorem c36_12_wp (P : Program) (Q : APost) (a : AFr) (σ : ASt) : c36_12.wp P Q a σ = ACode.wp P (.seq c36_11 .ret) Q a σ := id rfl
@[go_sem] theorem c36_13_wp (P : Program) (Q : APost) (a : AFr) (σ : ASt) : c36_13.wp P Q a σ = ACode.wp P (.cond (.t 48) c36_12 .skip) Q a σ := id rfl
@[go_sem] theorem c36_14_wp (P : Program) (Q : APost) (a : AFr) (σ : ASt) : c36_14.wp P Q a σ = ACode.wp P (.seq c36_10 c36_13) Q a σ := id rfl
@[go_sem] theorem c36_15_wp (P : Program) (Q : APost) (a : AFr) (σ : ASt) : c36_15.wp P Q a σ = ACode.wp P (.ops [
    ⟨(some 49), none, .q (.mv (.t 0)), []⟩,
    ⟨(some 50), none, .q (.nc (.t 49)), []⟩,
    ⟨(some 51), none, .q (.fa 1 (.t 50)), []⟩,
    ⟨(some 52), none, .q (.ld none (.t 51)), []⟩,
    ⟨(some 53), none, .q (.mv (.t 5)), []⟩,
    ⟨(some 54), none, .q (.conv .i64 (.t 53)), []⟩,
    ⟨(some 55), none, .q (.bin .add (.t 52) (.t 54)), []⟩,
    ⟨(some 56), none, .q (.nc (.t 49)), []⟩,
    ⟨(some 57), none, .q (.fa 1 (.t 56)), []⟩,
    ⟨none, none, .e (.store 1 (.t 57) (.t 55)), []⟩]) Q a σ := id rfl
@[go_sem] theorem c36_16_wp (P : Program) (Q : APost) (a : AFr) (σ : ASt) : c36_16.wp P Q a σ = ACode.wp P (.ops [
    ⟨(some 58), none, .q (.mv (.t 0)), []⟩,
    ⟨(some 59), none, .q (.nc (.t 58)), []⟩,
    ⟨(some 60), none, .q (.fa 0 (.t 59)), []⟩,
    ⟨(some 61), none, .q (.ld none (.t 60)), []⟩,
    ⟨(some 62), none, .q (.mv (.t 0)), []⟩,
    ⟨(some 63), none, .q (.nc (.t 62)), []⟩,
    ⟨(some 64), none, .q (.fa 1 (.t 63)), []⟩,
    ⟨(some 65), none, .q (.ld none (.t 64)), []⟩,
    ⟨(some 66), none, .q (.mv (.t 5)), []⟩,
    ⟨(some 67), none, .q (.conv .i64 (.t 66)), []⟩,
    ⟨(some 68), none, .q (.bin .sub (.t 65) (.t 67)), []⟩,
    ⟨(some 69), none, .q (.mv (.t 0)), []⟩,
    ⟨(some 70), none, .q (.nc (.t 69)), []⟩,
    ⟨(some 71), none, .q (.fa 1 (.t 70)), []⟩,
    ⟨(some 72), none, .q (.ld none (.t 71)), []⟩,
    ⟨(some 73), none, .q (.sls (true, 0) (.t 61) (.t 68) (.t 72)), []⟩,
    ⟨(some 4), none, .q (.mv (.t 73)), []⟩]) Q a σ := id rfl
@[go_sem] theorem c36_17_wp (P : Program) (Q : APost) (a : AFr) (σ : ASt) : c36_17.wp P Q a σ = ACode.wp P (.seq c36_16 .ret) Q a σ := id rfl
@[go_sem] theorem c36_18_wp (P : Program) (Q : APost) (a : AFr) (σ : ASt) : c36_18.wp P Q a σ = ACode.wp P (.seq c36_15 c36_17) Q a σ := id rfl
@[go_sem] theorem c36_19_wp (P : Program) (Q : APost) (a : AFr) (σ : ASt) : c36_19.wp P Q a σ = ACode.wp P (.seq c36_14 c36_18) Q a σ := id rfl
@[go_sem] theorem c36_20_wp (P : Program) (Q : APost) (a : AFr) (σ : ASt) : c36_20.wp P Q a σ = ACode.wp P (.seq c36_9 c36_19) Q a σ := id rfl
@[go_sem] theorem c36_21_wp (P : Program) (Q : APost) (a : AFr) (σ : ASt) : c36_21.wp P Q a σ = ACode.wp P (.seq c36_5 c36_20) Q a σ := id rfl
@[go_sem] theorem c36_22_wp (P : Program) (Q : APost) (a : AFr) (σ : ASt) : c36_22.wp P Q a σ = ACode.wp P (.seq c36_1 c36_21) Q a σ := id rfl
@[go_sem] theorem c36_23_wp (P : Program) (Q : APost) (a : AFr) (σ : ASt) : c36_23.wp P Q a σ = ACode.wp P (.seq c36_0 c36_22) Q a σ := id rfl
def c36 : AFn := ⟨74, [.t 4], c36_23⟩
set_option maxRecDepth 100000 in
theorem c36_ok : compF Try.prog Try.f36 = some c36 := by kernel_rfl
theorem a36 {args : List AV} {σ : ASt} {R : AV → ASt → Prop} (hl : args.length ≤ 74) (h : c36_23.wp Try.prog (RetQ [.t 4] R) (init args) σ) : ACalls Try.prog 36 args σ R := acalls_of Try.func36 c36_ok hl h

/-! 38: tabular/tabularlaw02.sameNumbers -/
def c38_0 : ACode := .ops [
    ⟨(some 4), none, .q (.mv (.v (.int .i64 0))), []⟩]
def c38_1 : ACode := .ops [
    ⟨(some 6), none, .q (.mv (.t 0)), []⟩,
    ⟨(some 7), none, .q (.len (.t 6)), []⟩,
    ⟨(some 8), none, .q (.mv (.t 1)), []⟩,
    ⟨(some 9), none, .q (.len (.t 8)), []⟩,
    ⟨(some 10), none, .q (.bin .neq (.t 7) (.t 9)), []⟩]
def c38_2 : ACode := .ops [
    ⟨(some 4), none, .q (.mv (.v (.int .i64 (-1)))), []⟩]
def c38_3 : ACode := .seq c38_2 .ret
def c38_4 : ACode := .cond (.t 10) c38_3 .skip
def c38_5 : ACode := .seq c38_1 c38_4
def c38_6 : ACode := .ops [
    ⟨(some 11), none, .q (.mv (.t 1)), []⟩,
    ⟨(some 12), none, .q (.len (.t 11)), []⟩,
    ⟨(some 13), none, .q (.mv (.v (.int .i64 0))), []⟩]
def c38_7 : ACode := .ops [
    ⟨(some 14), none, .q (.bin .lss (.t 13) (.t 12)), []⟩]
def c38_8 : ACode := .cond (.t 14) .skip (.exit 0)
def c38_9 : ACode := .ops [
    ⟨(some 15), none, .q (.mv (.t 13)), []⟩,
    ⟨(some 5), none, .q (.mv (.t 15)), []⟩]
def c38_10 : ACode := .ops [
    ⟨(some 16), none, .q (.mv (.t 0)), []⟩,
    ⟨(some 17), none, .q (.mv (.t 5)), []⟩,
    ⟨(some 18), none, .q (.ia 1 (.t 16) (.t 17)), []⟩,
    ⟨(some 19), none, .q (.ld none (.t 18)), []⟩,
    ⟨(some 20), none, .q (.mv (.t 1)), []⟩,
    ⟨(some 21), none, .q (.mv (.t 5)), []⟩,
    ⟨(some 22), none, .q (.ia 1 (.t 20) (.t 21)), []⟩,
    ⟨(some 23), none, .q (.ld none (.t 22)), []⟩,
    ⟨(some 24), none, .q (.bin .neq (.t 19) (.t 23)), []⟩]
def c38_11 : ACode := .ops [
    ⟨(some 4), none, .q (.mv (.v (.int .i64 (-1)))), []⟩]
def c38_12 : ACode := .seq c38_11 .ret
def c38_13 : ACode := .cond (.t 24) c38_12 .skip
def c38_14 : ACode := .seq c38_10 c38_13
def c38_15 : ACode := .seq c38_9 c38_14
def c38_16 : ACode := .block 1 c38_15
def c38_17 : ACode := .ops [
    ⟨(some 25), none, .q (.bin .add (.t 13) (.v (.int .i64 1))), []⟩,
    ⟨(some 13), none, .q (.mv (.t 25)), []⟩]
def c38_18 : ACode := .seq c38_16 c38_17
def c38_19 : ACode := .seq c38_8 c38_18
def c38_20 : ACode := .seq c38_7 c38_19
def c38_21 : ACode := .loop c38_20
def c38_22 : ACode := .block 0 c38_21
def c38_23 : ACode := .seq c38_6 c38_22
def c38_24 : ACode := .ops [
    ⟨(some 4), none, .q (.mv (.v (.int .i64 0))), []⟩]
def c38_25 : ACode := .seq c38_24 .ret
def c38_26 : ACode := .seq c38_23 c38_25
def c38_27 : ACode := .seq c38_5 c38_26
def c38_28 : ACode := .seq c38_0 c38_27
@[go_sem] theorem c38_0_wp (P : Program) (Q : APost) (a : AFr) (σ : ASt) : c38_0.wp P Q a σ = ACode.wp P (.ops [
    ⟨(some 4), none, .q (.mv (.v (.int .i64 0))), []⟩]) Q a σ := id rfl
@[go_sem] theorem c38_1_wp (P : Program) (Q : APost) (a : AFr) (σ : ASt) : c38_1.wp P Q a σ = ACode.wp P (.ops [
    ⟨(some 6), none, .q (.mv (.t 0)), []⟩,
    ⟨(some 7), none, .q (.len (.t 6)), []⟩,
    ⟨(some 8), none, .q (.mv (.t 1)), []⟩,
    ⟨(some 9), none, .q (.len (.t 8)), []⟩,
    ⟨(some 10), none, .q (.bin .neq (.t 7) (.t 9)), []⟩]) Q a σ := id rfl
@[go_sem] theorem c38_2_wp (P : Program) (Q : APost) (a : AFr) (σ : ASt) : c38_2.wp P Q a σ = ACode.wp P (.ops [
    ⟨(some 4), none, .q (.mv (.v (.int .i64 (-1)))), []⟩]) Q a σ := id rfl
@[go_sem] theorem c38_3_wp (P : Program) (Q : APost) (a : AFr) (σ : ASt) : c38_3.wp P Q a σ = ACode.wp P (.seq c38_2 .ret) Q a σ := id rfl
@[go_sem] theorem c38_4_wp (P : Program) (Q : APost) (a : AFr) (σ : ASt) : c38_4.wp P Q a σ = ACode.wp P (.cond (.t 10) c38_3 .skip) Q a σ := id rfl
@[go_sem] theorem c38_5_wp (P : Program) (Q : APost) (a : AFr) (σ : ASt) : c38_5.wp P Q a σ = ACode.wp P (.seq c38_1 c38_4) Q a σ := id rfl
@[go_sem] theorem c38_6_wp (P : Program) (Q : APost) (a : AFr) (σ : ASt) : c38_6.wp P Q a σ = ACode.wp P (.ops [
    ⟨(some 11), none, .q (.mv (.t 1)), []⟩,
    ⟨(some 12), none, .q (.len (.t 11)), []⟩,
    ⟨(some 13), none, .q (.mv (.v (.int .i64 0))), []⟩]) Q a σ := id rfl
@[go_sem] theorem c38_7_wp (P : Program) (Q : APost) (a : AFr) (σ : ASt) : c38_7.wp P Q a σ = ACode.wp P (.ops [
    ⟨(some 14), none, .q (.bin .lss (.t 13) (.t 12)), []⟩]) Q a σ := id rfl
@[go_sem] theorem c38_8_wp (P : Program) (Q : APost) (a : AFr) (σ : ASt) : c38_8.wp P Q a σ = ACode.wp P (.cond (.t 14) .skip (.exit 0)) Q a σ := id rfl
@[go_sem] theorem c38_9_wp (P : Program) (Q : APost) (a : AFr) (σ : ASt) : c38_9.wp P Q a σ = ACode.wp P (.ops [
    ⟨(some 15), none, .q (.mv (.t 13)), []⟩,
    ⟨(some 5), none, .q (.mv (.t 15)), []⟩]) Q a σ := id rfl
@[go_sem] theorem c38_10_wp (P : Program) (Q : APost) (a : AFr) (σ : ASt) : c38_10.wp P Q a σ = ACode.wp P (.ops [
    ⟨(some 16), none, .q (.mv (.t 0)), []⟩,
    ⟨(some 17), none, .q (.mv (.t 5)), []⟩,
    ⟨(some 18), none, .q (.ia 1 (.t 16) (.t 17)), []⟩,
    ⟨(some 19), none, .q (.ld none (.t 18)), []⟩,
    ⟨(some 20), none, .q (.mv (.t 1)), []⟩,
    ⟨(some 21), none, .q (.mv (.t 5)), []⟩,
    ⟨(some 22), none, .q (.ia 1 (.t 20) (.t 21)), []⟩,
    ⟨(some 23), none, .q (.ld none (.t 22)), []⟩,
    ⟨(some 24), none, .q (.bin .neq (.t 19) (.t 23)), []⟩]) Q a σ := id rfl
@[go_sem] theorem c38_11_wp (P : Program) (Q : APost) (a : AFr) (σ : ASt) : c38_11.wp P Q a σ = ACode.wp P (.ops [
    ⟨(some 4), none, .q (.mv (.v (.int .i64 (-1)))), []⟩]) Q a σ := id rfl
@[go_sem] theorem c38_12_wp (P : Program) (Q : APost) (a : AFr) (σ : ASt) : c38_12.wp P Q a σ = ACode.wp P (.seq c38_11 .ret) Q a σ := id rfl
@[go_sem] theorem c38_13_wp (P : Program) (Q : APost) (a : AFr) (σ : ASt) : c38_13.wp P Q a σ = ACode.wp P (.cond (.t 24) c38_12 .skip) Q a σ := id rfl
@[go_sem] theorem c38_14_wp (P : Program) (Q : APost) (a : AFr) (σ : ASt) : c38_14.wp P Q a σ = ACode.wp P (.seq c38_10 c38_13) Q a σ := id rfl
@[go_sem] theorem c38_15_wp (P : Program) (Q : APost) (a : AFr) (σ : ASt) : c38_15.wp P Q a σ = ACode.wp P (.seq c38_9 c38_14) Q a σ := id rfl
@[go_sem] theorem c38_16_wp (P : Program) (Q : APost) (a : AFr) (σ : ASt) : c38_16.wp P Q a σ = ACode.wp P (.block 1 c38_15) Q a σ := id rfl
@[go_sem] theorem c38_17_wp (P : Program) (Q : APost) (a : AFr) (σ : ASt) : c38_17.wp P Q a σ = ACode.wp P (.ops [
    ⟨(some 25), none, .q (.bin .add (.t 13) (.v (.int .i64 1))), []⟩,
    ⟨(some 13), none, .q (.mv (.t 25)), []⟩]) Q a σ := id rfl
@[go_sem] theorem c38_18_wp (P : Program) (Q : APost) (a : AFr) (σ : ASt) : c38_18.wp P Q a σ = ACode.wp P (.seq c38_16 c38_17) Q a σ := id rfl
@[go_sem] theorem c38_19_wp (P : Program) (Q : APost) (a : AFr) (σ : ASt) : c38_19.wp P Q a σ = ACode.wp P (.seq c38_8 c38_18) Q a σ := id rfl
@[go_sem] theorem c38_20_wp (P : Program) (Q : APost) (a : AFr) (σ : ASt) : c38_20.wp P Q a σ = ACode.wp P (.seq c38_7 c38_19) Q a σ := id rfl
@[go_sem] theorem c38_21_wp (P : Program) (Q : APost) (a : AFr) (σ : ASt) : c38_21.wp P Q a σ = ACode.wp P (.loop c38_20) Q a σ := id rfl
@[go_sem] theorem c38_22_wp (P : Program) (Q : APost) (a : AFr) (σ : ASt) : c38_22.wp P Q a σ = ACode.wp P (.block 0 c38_21) Q a σ := id rfl
@[go_sem] theorem c38_23_wp (P : Program) (Q : APost) (a : AFr) (σ : ASt) : c38_23.wp P Q a σ = ACode.wp P (.seq c38_6 c38_22) Q a σ := id rfl
@[go_sem] theorem c38_24_wp (P : Program) (Q : APost) (a : AFr) (σ : ASt) : c38_24.wp P Q a σ = ACode.wp P (.ops [
    ⟨(some 4), none, .q (.mv (.v (.int .i64 0))), []⟩]) Q a σ := id rfl
@[go_sem] theorem c38_25_wp (P : Program) (Q : APost) (a : AFr) (σ : ASt) : c38_25.wp P Q a σ = ACode.wp P (.seq c38_24 .ret) Q a σ := id rfl
@[go_sem] theorem c38_26_wp (P : Program) (Q : APost) (a : AFr) (σ : ASt) : c38_26.wp P Q a σ = ACode.wp P (.seq c38_23 c38_25) Q a σ := id rfl
@[go_sem] theorem c38_27_wp (P : Program) (Q : APost) (a : AFr) (σ : ASt) : c38_27.wp P Q a σ = ACode.wp P (.seq c38_5 c38_26) Q a σ := id rfl
@[go_sem] theorem c38_28_wp (P : Program) (Q : APost) (a : AFr) (σ : ASt) : c38_28.wp P Q a σ = ACode.wp P (.seq c38_0 c38_27) Q a σ := id rfl
def c38 : AFn := ⟨26, [.t 4], c38_28⟩
set_option maxRecDepth 100000 in
theorem c38_ok : compF Try.prog Try.f38 = some c38 := by kernel_rfl
theorem a38 {args : List AV} {σ : ASt} {R : AV → ASt → Prop} (hl : args.length ≤ 26) (h : c38_28.wp Try.prog (RetQ [.t 4] R) (init args) σ) : ACalls Try.prog 38 args σ R := acalls_of Try.func38 c38_ok hl h

/-! 39: tabular/tabularlaw02.sameSpans -/
def c39_0 : ACode := .ops [
    ⟨(some 4), none, .q (.mv (.v (.int .i64 0))), []⟩]
def c39_1 : ACode := .ops [
    ⟨(some 6), none, .q (.mv (.t 0)), []⟩,
    ⟨(some 7), none, .q (.len (.t 6)), []⟩,
    ⟨(some 8), none, .q (.mv (.t 1)), []⟩,
    ⟨(some 9), none, .q (.len (.t 8)), []⟩,
    ⟨(some 10), none, .q (.bin .neq (.t 7) (.t 9)), []⟩]
def c39_2 : ACode := .ops [
    ⟨(some 4), none, .q (.mv (.v (.int .i64 (-1)))), []⟩]
def c39_3 : ACode := .seq c39_2 .ret
def c39_4 : ACode := .cond (.t 10) c39_3 .skip
def c39_5 : ACode := .seq c39_1 c39_4
def c39_6 : ACode := .ops [
    ⟨(some 11), none, .q (.mv (.t 1)), []⟩,
    ⟨(some 12), none, .q (.len (.t 11)), []⟩,
    ⟨(some 13), none, .q (.mv (.v (.int .i64 0))), []⟩]
def c39_7 : ACode := .ops [
    ⟨(some 14), none, .q (.bin .lss (.t 13) (.t 12)), []⟩]
def c39_8 : ACode := .cond (.t 14) .skip (.exit 0)
def c39_9 : ACode := .ops [
    ⟨(some 15), none, .q (.mv (.t 13)), []⟩,
    ⟨(some 5), none, .q (.mv (.t 15)), []⟩]
def c39_10 : ACode := .ops [
    ⟨(some 16), none, .q (.mv (.t 0)), []⟩,
    ⟨(some 17), none, .q (.mv (.t 5)), []⟩,
    ⟨(some 18), none, .q (.ia 2 (.t 16) (.t 17)), []⟩,
    ⟨(some 19), none, .q (.ld (some 2) (.t 18)), []⟩,
    ⟨(some 20), none, .q (.mv (.t 1)), []⟩,
    ⟨(some 21), none, .q (.mv (.t 5)), []⟩,
    ⟨(some 22), none, .q (.ia 2 (.t 20) (.t 21)), []⟩,
    ⟨(some 23), none, .q (.ld (some 2) (.t 22)), []⟩,
    ⟨(some 24), none, .q (.eqs true [(0, 0), (1, 0)] (.t 19) (.t 23)), []⟩]
def c39_11 : ACode := .ops [
    ⟨(some 4), none, .q (.mv (.v (.int .i64 (-1)))), []⟩]
def c39_12 : ACode := .seq c39_11 .ret
def c39_13 : ACode := .cond (.t 24) c39_12 .skip
def c39_14 : ACode := .seq c39_10 c39_13
def c39_15 : ACode := .seq c39_9 c39_14
def c39_16 : ACode := .block 1 c39_15
def c39_17 : ACode := .ops [
    ⟨(some 25), none, .q (.bin .add (.t 13) (.v (.int .i64 1))), []⟩,
    ⟨(some 13), none, .q (.mv (.t 25)), []⟩]
def c39_18 : ACode := .seq c39_16 c39_17
def c39_19 : ACode := .seq c39_8 c39_18
def c39_20 : ACode := .seq c39_7 c39_19
def c39_21 : ACode := .loop c39_20
def c39_22 : ACode := .block 0 c39_21
def c39_23 : ACode := .seq c39_6 c39_22
def c39_24 : ACode := .ops [
    ⟨(some 4), none, .q (.mv (.v (.int .i64 0))), []⟩]
def c39_25 : ACode := .seq c39_24 .ret
def c39_26 : ACode := .seq c39_23 c39_25
def c39_27 : ACode := .seq c39_5 c39_26
def c39_28 : ACode := .seq c39_0 c39_27
@[go_sem] theorem c39_0_wp (P : Program) (Q : APost) (a : AFr) (σ : ASt) : c39_0.wp P Q a σ = ACode.wp P (.ops [
    ⟨(some 4), none, .q (.mv (.v (.int .i64 0))), []⟩]) Q a σ := id rfl
@[go_sem] theorem c39_1_wp (P : Program) (Q : APost) (a : AFr) (σ : ASt) : c39_1.wp P Q a σ = ACode.wp P (.ops [
    ⟨(some 6), none, .q (.mv (.t 0)), []⟩,
    ⟨(some 7), none, .q (.len (.t 6)), []⟩,
    ⟨(some 8), none, .q (.mv (.t 1)), []⟩,
    ⟨(some 9), none, .q (.len (.t 8)), []⟩,
    ⟨(some 10), none, .q (.bin .neq (.t 7) (.t 9)), []⟩]) Q a σ := id rfl
@[go_sem] theorem c39_2_wp (P : Program) (Q : APost) (a : AFr) (σ : ASt) : c39_2.wp P Q a σ = ACode.wp P (.ops [
    ⟨(some 4), none, .q (.mv (.v (.int .i64 (-1)))), []⟩]) Q a σ := id rfl
@[go_sem] theorem c39_3_wp (P : Program) (Q : APost) (a : AFr) (σ : ASt) : c39_3.wp P Q a σ = ACode.wp P (.seq c39_2 .ret) Q a σ := id rfl
@[go_sem] theorem c39_4_wp (P : Program) (Q : APost) (a : AFr) (σ : ASt) : c39_4.wp P Q a σ = ACode.wp P (.cond (.t 10) c39_3 .skip) Q a σ := id rfl
@[go_sem] theorem c39_5_wp (P : Program) (Q : APost) (a : AFr) (σ : ASt) : c39_5.wp P Q a σ = ACode.wp P (.seq c39_1 c39_4) Q a σ := id rfl
@[go_sem] theorem c39_6_wp (P : Program) (Q : APost) (a : AFr) (σ : ASt) : c39_6.wp P Q a σ = ACode.wp P (.ops [
    ⟨(some 11), none, .q (.mv (.t 1)), []⟩,
    ⟨(some 12), none, .q (.len (.t 11)), []⟩,
    ⟨(some 13), none, .q (.mv (.v (.int .i64 0))), []⟩]) Q a σ := id rfl
@[go_sem] theorem c39_7_wp (P : Program) (Q : APost) (a : AFr) (σ : ASt) : c39_7.wp P Q a σ = ACode.wp P (.ops [
    ⟨(some 14), none, .q (.bin .lss (.t 13) (.t 12)), []⟩]) Q a σ := id rfl
@[go_sem] theorem c39_8_wp (P : Program) (Q : APost) (a : AFr) (σ : ASt) : c39_8.wp P Q a σ = ACode.wp P (.cond (.t 14) .skip (.exit 0)) Q a σ := id rfl
@[go_sem] theorem c39_9_wp (P : Program) (Q : APost) (a : AFr) (σ : ASt) : c39_9.wp P Q a σ = ACode.wp P (.ops [
    ⟨(some 15), none, .q (.mv (.t 13)), []⟩,
    ⟨(some 5), none, .q (.mv (.t 15)), []⟩]) Q a σ := id rfl
@[go_sem] theorem c39_10_wp (P : Program) (Q : APost) (a : AFr) (σ : ASt) : c39_10.wp P Q a σ = ACode.wp P (.ops [
    ⟨(some 16), none, .q (.mv (.t 0)), []⟩,
    ⟨(some 17), none, .q (.mv (.t 5)), []⟩,
    ⟨(some 18), none, .q (.ia 2 (.t 16) (.t 17)), []⟩,
    ⟨(some 19), none, .q (.ld (some 2) (.t 18)), []⟩,
    ⟨(some 20), none, .q (.mv (.t 1)), []⟩,
    ⟨(some 21), none, .q (.mv (.t 5)), []⟩,
    ⟨(some 22), none, .q (.ia 2 (.t 20) (.t 21)), []⟩,
    ⟨(some 23), none, .q (.ld (some 2) (.t 22)), []⟩,
    ⟨(some 24), none, .q (.eqs true [(0, 0), (1, 0)] (.t 19) (.t 23)), []⟩]) Q a σ := id rfl
@[go_sem] theorem c39_11_wp (P : Program) (Q : APost) (a : AFr) (σ : ASt) : c39_11.wp P Q a σ = ACode.wp P (.ops [
    ⟨(some 4), none, .q (.mv (.v (.int .i64 (-1)))), []⟩]) Q a σ := id rfl
@[go_sem] theorem c39_12_wp (P : Program) (Q : APost) (a : AFr) (σ : ASt) : c39_12.wp P Q a σ = ACode.wp P (.seq c39_11 .ret) Q a σ := id rfl
@[go_sem] theorem c39_13_wp (P : Program) (Q : APost) (a : AFr) (σ : ASt) : c39_13.wp P Q a σ = ACode.wp P (.cond (.t 24) c39_12 .skip) Q a σ := id rfl
@[go_sem] theorem c39_14_wp (P : Program) (Q : APost) (a : AFr) (σ : ASt) : c39_14.wp P Q a σ = ACode.wp P (.seq c39_10 c39_13) Q a σ := id rfl
@[go_sem] theorem c39_15_wp (P : Program) (Q : APost) (a : AFr) (σ : ASt) : c39_15.wp P Q a σ = ACode.wp P (.seq c39_9 c39_14) Q a σ := id rfl
@[go_sem] theorem c39_16_wp (P : Program) (Q : APost) (a : AFr) (σ : ASt) : c39_16.wp P Q a σ = ACode.wp P (.block 1 c39_15) Q a σ := id rfl
@[go_sem] theorem c39_17_wp (P : Program) (Q : APost) (a : AFr) (σ : ASt) : c39_17.wp P Q a σ = ACode.wp P (.ops [
    ⟨(some 25), none, .q (.bin .add (.t 13) (.v (.int .i64 1))), []⟩,
    ⟨(some 13), none, .q (.mv (.t 25)), []⟩]) Q a σ := id rfl
@[go_sem] theorem c39_18_wp (P : Program) (Q : APost) (a : AFr) (σ : ASt) : c39_18.wp P Q a σ = ACode.wp P (.seq c39_16 c39_17) Q a σ := id rfl
@[go_sem] theorem c39_19_wp (P : Program) (Q : APost) (a : AFr) (σ : ASt) : c39_19.wp P Q a σ = ACode.wp P (.seq c39_8 c39_18) Q a σ := id rfl
@[go_sem] theorem c39_20_wp (P : Program) (Q : APost) (a : AFr) (σ : ASt) : c39_20.wp P Q a σ = ACode.wp P (.seq c39_7 c39_19) Q a σ := id rfl
@[go_sem] theorem c39_21_wp (P : Program) (Q : APost) (a : AFr) (σ : ASt) : c39_21.wp P Q a σ = ACode.wp P (.loop c39_20) Q a σ := id rfl
@[go_sem] theorem c39_22_wp (P : Program) (Q : APost) (a : AFr) (σ : ASt) : c39_22.wp P Q a σ = ACode.wp P (.block 0 c39_21) Q a σ := id rfl
@[go_sem] theorem c39_23_wp (P : Program) (Q : APost) (a : AFr) (σ : ASt) : c39_23.wp P Q a σ = ACode.wp P (.seq c39_6 c39_22) Q a σ := id rfl
@[go_sem] theorem c39_24_wp (P : Program) (Q : APost) (a : AFr) (σ : ASt) : c39_24.wp P Q a σ = ACode.wp P (.ops [
    ⟨(some 4), none, .q (.mv (.v (.int .i64 0))), []⟩]) Q a σ := id rfl
@[go_sem] theorem c39_25_wp (P : Program) (Q : APost) (a : AFr) (σ : ASt) : c39_25.wp P Q a σ = ACode.wp P (.seq c39_24 .ret) Q a σ := id rfl
@[go_sem] theorem c39_26_wp (P : Program) (Q : APost) (a : AFr) (σ : ASt) : c39_26.wp P Q a σ = ACode.wp P (.seq c39_23 c39_25) Q a σ := id rfl
@[go_sem] theorem c39_27_wp (P : Program) (Q : APost) (a : AFr) (σ : ASt) : c39_27.wp P Q a σ = ACode.wp P (.seq c39_5 c39_26) Q a σ := id rfl
@[go_sem] theorem c39_28_wp (P : Program) (Q : APost) (a : AFr) (σ : ASt) : c39_28.wp P Q a σ = ACode.wp P (.seq c39_0 c39_27) Q a σ := id rfl
def c39 : AFn := ⟨26, [.t 4], c39_28⟩
set_option maxRecDepth 100000 in
theorem c39_ok : compF Try.prog Try.f39 = some c39 := by kernel_rfl
theorem a39 {args : List AV} {σ : ASt} {R : AV → ASt → Prop} (hl : args.length ≤ 26) (h : c39_28.wp Try.prog (RetQ [.t 4] R) (init args) σ) : ACalls Try.prog 39 args σ R := acalls_of Try.func39 c39_ok hl h

/-! 42: tabular/tabularref02.Fold -/
def c42_0 : ACode := .ops [
    ⟨(some 2), none, .q (.mv (.v (.int .u64 0))), []⟩]
def c42_1 : ACode := .ops [
    ⟨(some 3), none, .q (.mv (.t 0)), []⟩,
    ⟨(some 4), none, .q (.bin .lss (.t 3) (.v (.int .i64 0))), []⟩]
def c42_2 : ACode := .ops [
    ⟨(some 5), none, .q (.mv (.t 0)), []⟩,
    ⟨(some 6), none, .q (.bin .add (.t 5) (.v (.int .i64 1))), []⟩,
    ⟨(some 7), none, .q (.un .neg (.t 6)), []⟩,
    ⟨(some 8), none, .q (.conv .u64 (.t 7)), []⟩,
    ⟨(some 9), none, .q (.bin .mul (.v (.int .u64 2)) (.t 8)), []⟩,
    ⟨(some 10), none, .q (.bin .add (.t 9) (.v (.int .u64 1))), []⟩,
    ⟨(some 2), none, .q (.mv (.t 10)), []⟩]
def c42_3 : ACode := .seq c42_2 .ret
def c42_4 : ACode := .cond (.t 4) c42_3 .skip
def c42_5 : ACode := .seq c42_1 c42_4
def c42_6 : ACode := .ops [
    ⟨(some 11), none, .q (.mv (.t 0)), []⟩,
    ⟨(some 12), none, .q (.conv .u64 (.t 11)), []⟩,
    ⟨(some 13), none, .q (.bin .mul (.v (.int .u64 2)) (.t 12)), []⟩,
    ⟨(some 2), none, .q (.mv (.t 13)), []⟩]
def c42_7 : ACode := .seq c42_6 .ret
def c42_8 : ACode := .seq c42_5 c42_7
def c42_9 : ACode := .seq c42_0 c42_8
@[go_sem] theorem c42_0_wp (P : Program) (Q : APost) (a : AFr) (σ : ASt) : c42_0.wp P Q a σ = ACode.wp P (.ops [
    ⟨(some 2), none, .q (.mv (.v (.int .u64 0))), []⟩]) Q a σ := id rfl
@[go_sem] theorem c42_1_wp (P : Program) (Q : APost) (a : AFr) (σ : ASt) : c42_1.wp P Q a σ = ACode.wp P (.ops [
    ⟨(some 3), none, .q (.mv (.t 0)), []⟩,
    ⟨(some 4), none, .q (.bin .lss (.t 3) (.v (.int .i64 0))), []⟩]) Q a σ := id rfl
@[go_sem] theorem c42_2_wp (P : Program) (Q : APost) (a : AFr) (σ : ASt) : c42_2.wp P Q a σ = ACode.wp P (.ops [
    ⟨(some 5), none, .q (.mv (.t 0)), []⟩,
    ⟨(some 6), none, .q (.bin .add (.t 5) (.v (.int .i64 1))), []⟩,
    ⟨(some 7), none, .q (.un .neg (.t 6)), []⟩,
    ⟨(some 8), none, .q (.conv .u64 (.t 7)), []⟩,
    ⟨(some 9), none, .q (.bin .mul (.v (.int .u64 2)) (.t 8)), []⟩,
    ⟨(some 10), none, .q (.bin .add (.t 9) (.v (.int .u64 1))), []⟩,
    ⟨(some 2), none, .q (.mv (.t 10)), []⟩]) Q a σ := id rfl
@[go_sem] theorem c42_3_wp (P : Program) (Q : APost) (a : AFr) (σ : ASt) : c42_3.wp P Q a σ = ACode.wp P (.seq c42_2 .ret) Q a σ := id rfl
@[go_sem] theorem c42_4_wp (P : Program) (Q : APost) (a : AFr) (σ : ASt) : c42_4.wp P Q a σ = ACode.wp P (.cond (.t 4) c42_3 .skip) Q a σ := id rfl
@[go_sem] theorem c42_5_wp (P : Program) (Q : APost) (a : AFr) (σ : ASt) : c42_5.wp P Q a σ = ACode.wp P (.seq c42_1 c42_4) Q a σ := id rfl
@[go_sem] theorem c42_6_wp (P : Program) (Q : APost) (a : AFr) (σ : ASt) : c42_6.wp P Q a σ = ACode.wp P (.ops [
    ⟨(some 11), none, .q (.mv (.t 0)), []⟩,
    ⟨(some 12), none, .q (.conv .u64 (.t 11)), []⟩,
    ⟨(some 13), none, .q (.bin .mul (.v (.int .u64 2)) (.t 12)), []⟩,
    ⟨(some 2), none, .q (.mv (.t 13)), []⟩]) Q a σ := id rfl
@[go_sem] theorem c42_7_wp (P : Program) (Q : APost) (a : AFr) (σ : ASt) : c42_7.wp P Q a σ = ACode.wp P (.seq c42_6 .ret) Q a σ := id rfl
@[go_sem] theorem c42_8_wp (P : Program) (Q : APost) (a : AFr) (σ : ASt) : c42_8.wp P Q a σ = ACode.wp P (.seq c42_5 c42_7) Q a σ := id rfl
@[go_sem] theorem c42_9_wp (P : Program) (Q : APost) (a : AFr) (σ : ASt) : c42_9.wp P Q a σ = ACode.wp P (.seq c42_0 c42_8) Q a σ := id rfl
def c42 : AFn := ⟨14, [.t 2], c42_9⟩
set_option maxRecDepth 100000 in
theorem c42_ok : compF Try.prog Try.f42 = some c42 := by kernel_rfl
theorem a42 {args : List AV} {σ : ASt} {R : AV → ASt → Prop} (hl : args.length ≤ 14) (h : c42_9.wp Try.prog (RetQ [.t 2] R) (init args) σ) : ACalls Try.prog 42 args σ R := acalls_of Try.func42 c42_ok hl h

/-! 44: tabular/tabularref02.Text -/
def c44_0 : ACode := .ops [
    ⟨(some 2), none, .q (.mv (.v (.str []))), []⟩]
def c44_1 : ACode := .ops [
    ⟨(some 3), none, .q (.mv (.t 0)), []⟩,
    ⟨(some 4), none, .q (.lenS (.t 3)), []⟩,
    ⟨(some 5), none, .q (.conv .u64 (.t 4)), []⟩,
    ⟨(some 6), none, .e (.call 30 [(.t 5)]), []⟩,
    ⟨(some 7), none, .q (.mv (.t 0)), []⟩,
    ⟨(some 8), none, .q (.bin .add (.t 6) (.t 7)), []⟩,
    ⟨(some 2), none, .q (.mv (.t 8)), []⟩]
def c44_2 : ACode := .seq c44_1 .ret
def c44_3 : ACode := .seq c44_0 c44_2
@[go_sem] theorem c44_0_wp (P : Program) (Q : APost) (a : AFr) (σ : ASt) : c44_0.wp P Q a σ = ACode.wp P (.ops [
    ⟨(some 2), none, .q (.mv (.v (.str []))), []⟩]) Q a σ := id rfl
@[go_sem] theorem c44_1_wp (P : Program) (Q : APost) (a : AFr) (σ : ASt) : c44_1.wp P Q a σ = ACode.wp P (.ops [
    ⟨(some 3), none, .q (.mv (.t 0)), []⟩,
    ⟨(some 4), none, .q (.lenS (.t 3)), []⟩,
    ⟨(some 5), none, .q (.conv .u64 (.t 4)), []⟩,
    ⟨(some 6), none, .e (.call 30 [(.t 5)]), []⟩,
    ⟨(some 7), none, .q (.mv (.t 0)), []⟩,
    ⟨(some 8), none, .q (.bin .add (.t 6) (.t 7)), []⟩,
    ⟨(some 2), none, .q (.mv (.t 8)), []⟩]) Q a σ := id rfl
@[go_sem] theorem c44_2_wp (P : Program) (Q : APost) (a : AFr) (σ : ASt) : c44_2.wp P Q a σ = ACode.wp P (.seq c44_1 .ret) Q a σ := id rfl
@[go_sem] theorem c44_3_wp (P : Program) (Q : APost) (a : AFr) (σ : ASt) : c44_3.wp P Q a σ = ACode.wp P (.seq c44_0 c44_2) Q a σ := id rfl
def c44 : AFn := ⟨9, [.t 2], c44_3⟩
set_option maxRecDepth 100000 in
theorem c44_ok : compF Try.prog Try.f44 = some c44 := by kernel_rfl
theorem a44 {args : List AV} {σ : ASt} {R : AV → ASt → Prop} (hl : args.length ≤ 9) (h : c44_3.wp Try.prog (RetQ [.t 2] R) (init args) σ) : ACalls Try.prog 44 args σ R := acalls_of Try.func44 c44_ok hl h

end Go.A
