/- Part 8 of what ExprOne leans on: CodeEd Ed CodeEe Ee CodeEh Eh CodeEj Ej CodeVd Vd CodeVe. -/
import Derived.Test.YtennoafgkkoeaaaGreatDoorProg
import Derived.KernelRfl
import Derived.Test.YtennoafgkkoeaaaGreatDoorZExprOneg
namespace Go.A
open Go.Proofs
/-! 32: tabular/expr.spell -/
def c32_0 : ACode := .ops [
    ⟨(some 3), none, .e (.box (.t 1)), []⟩]
def c32_1 : ACode := .ops [
    ⟨(some 7), none, .q (.fa 0 (.t 3)), []⟩,
    ⟨(some 8), none, .q (.ld none (.t 7)), []⟩]
def c32_2 : ACode := .ops [
    ⟨(some 36), none, .q (.bin .eql (.t 8) (.v (.int .i64 1))), []⟩,
    ⟨(some 35), none, .q (.mv (.t 36)), []⟩]
def c32_3 : ACode := .ops [
    ⟨(some 37), none, .q (.mv (.t 0)), []⟩,
    ⟨(some 38), none, .q (.fa 1 (.t 3)), []⟩,
    ⟨(some 39), none, .q (.ld none (.t 38)), []⟩,
    ⟨(some 40), none, .e (.call 57 [(.t 39)]), []⟩,
    ⟨(some 41), none, .e (.call 56 [(.t 37), (.t 40)]), []⟩]
def c32_4 : ACode := .ops [
    ⟨(some 43), none, .q (.bin .eql (.t 8) (.v (.int .i64 2))), []⟩,
    ⟨(some 42), none, .q (.mv (.t 43)), []⟩]
def c32_5 : ACode := .ops [
    ⟨(some 44), none, .q (.mv (.t 0)), []⟩,
    ⟨(some 45), none, .q (.fa 2 (.t 3)), []⟩,
    ⟨(some 46), none, .q (.ld none (.t 45)), []⟩,
    ⟨(some 47), none, .e (.call 58 [(.t 46)]), []⟩,
    ⟨(some 48), none, .e (.call 56 [(.t 44), (.t 47)]), []⟩]
def c32_6 : ACode := .ops [
    ⟨(some 50), none, .q (.bin .eql (.t 8) (.v (.int .i64 3))), []⟩,
    ⟨(some 49), none, .q (.mv (.t 50)), []⟩]
def c32_7 : ACode := .ops [
    ⟨(some 51), none, .q (.mv (.t 0)), []⟩,
    ⟨(some 52), none, .q (.fa 1 (.t 3)), []⟩,
    ⟨(some 53), none, .q (.ld none (.t 52)), []⟩,
    ⟨(some 54), none, .q (.bin .neq (.t 53) (.v (.int .i64 0))), []⟩,
    ⟨(some 55), none, .e (.call 59 [(.t 54)]), []⟩,
    ⟨(some 56), none, .e (.call 56 [(.t 51), (.t 55)]), []⟩]
def c32_8 : ACode := .ops [
    ⟨(some 58), none, .q (.bin .eql (.t 8) (.v (.int .i64 4))), []⟩,
    ⟨(some 57), none, .q (.mv (.t 58)), []⟩]
def c32_9 : ACode := .ops [
    ⟨(some 59), none, .q (.mv (.t 0)), []⟩,
    ⟨(some 60), none, .q (.ld (some 12) (.t 3)), []⟩,
    ⟨(some 61), none, .e (.call 25 [(.t 60)]), []⟩,
    ⟨(some 62), none, .e (.call 56 [(.t 59), (.t 61)]), []⟩]
def c32_10 : ACode := .ops [
    ⟨(some 64), none, .q (.bin .eql (.t 8) (.v (.int .i64 5))), []⟩,
    ⟨(some 63), none, .q (.mv (.t 64)), []⟩]
def c32_11 : ACode := .ops [
    ⟨(some 65), none, .q (.mv (.t 0)), []⟩,
    ⟨(some 66), none, .q (.fa 3 (.t 3)), []⟩,
    ⟨(some 67), none, .q (.ld (some 4) (.t 66)), []⟩,
    ⟨(some 68), none, .e (.call 60 [(.t 67)]), []⟩,
    ⟨(some 69), none, .e (.call 56 [(.t 65), (.t 68)]), []⟩]
def c32_12 : ACode := .ops [
    ⟨(some 71), none, .q (.bin .eql (.t 8) (.v (.int .i64 6))), []⟩,
    ⟨(some 70), none, .q (.mv (.t 71)), []⟩]
def c32_13 : ACode := .ops [
    ⟨(some 72), none, .q (.mv (.t 0)), []⟩,
    ⟨(some 73), none, .q (.fa 3 (.t 3)), []⟩,
    ⟨(some 74), none, .q (.ld (some 4) (.t 73)), []⟩,
    ⟨(some 75), none, .q (.fa 7 (.t 3)), []⟩,
    ⟨(some 76), none, .q (.ld (some 4) (.t 75)), []⟩,
    ⟨(some 77), none, .q (.build [(.int .i64 0), (.int .i64 0), (.bool false), (.bool false), (.int .i64 0), (.int .i64 0), (.bool false), (.bool false)] [(0, 4, (.t 74)), (4, 4, (.t 76))]), []⟩,
    ⟨(some 78), none, .e (.call 61 [(.t 77)]), []⟩,
    ⟨(some 79), none, .e (.call 56 [(.t 72), (.t 78)]), []⟩]
def c32_14 : ACode := .ops [
    ⟨(some 81), none, .q (.bin .eql (.t 8) (.v (.int .i64 7))), []⟩,
    ⟨(some 80), none, .q (.mv (.t 81)), []⟩]
def c32_15 : ACode := .ops [
    ⟨(some 82), none, .q (.bin .eql (.t 8) (.v (.int .i64 8))), []⟩,
    ⟨(some 80), none, .q (.mv (.t 82)), []⟩]
def c32_16 : ACode := .cond (.t 80) .skip c32_15
def c32_17 : ACode := .seq c32_14 c32_16
def c32_18 : ACode := .ops [
    ⟨(some 83), none, .q (.mv (.t 0)), []⟩,
    ⟨(some 84), none, .q (.fa 0 (.t 3)), []⟩,
    ⟨(some 85), none, .q (.ld none (.t 84)), []⟩,
    ⟨(some 86), none, .q (.bin .sub (.t 85) (.v (.int .i64 7))), []⟩,
    ⟨(some 87), none, .q (.idx (.v (.str [45, 43])) (.t 86)), []⟩,
    ⟨(some 88), none, .e (.call 62 [(.t 83), (.t 87)]), []⟩]
def c32_19 : ACode := .ops [
    ⟨(some 89), none, .q (.mv (.t 0)), []⟩,
    ⟨(some 90), none, .q (.fa 11 (.t 3)), []⟩,
    ⟨(some 91), none, .q (.ld none (.t 90)), []⟩,
    ⟨(some 92), none, .q (.ia 12 (.t 91) (.v (.int .i64 0))), []⟩,
    ⟨(some 93), none, .q (.ld (some 12) (.t 92)), []⟩,
    ⟨(some 94), none, .e (.call 63 [(.t 89), (.t 93), (.v (.int .i64 6))]), []⟩]
def c32_20 : ACode := .seq c32_18 c32_19
def c32_21 : ACode := .ops [
    ⟨(some 96), none, .q (.bin .eql (.t 8) (.v (.int .i64 9))), []⟩,
    ⟨(some 95), none, .q (.mv (.t 96)), []⟩]
def c32_22 : ACode := .ops [
    ⟨(some 97), none, .q (.mv (.t 0)), []⟩,
    ⟨(some 98), none, .q (.fa 11 (.t 3)), []⟩,
    ⟨(some 99), none, .q (.ld none (.t 98)), []⟩,
    ⟨(some 100), none, .q (.ia 12 (.t 99) (.v (.int .i64 0))), []⟩,
    ⟨(some 101), none, .q (.ld (some 12) (.t 100)), []⟩,
    ⟨(some 102), none, .e (.call 63 [(.t 97), (.t 101), (.v (.int .i64 7))]), []⟩]
def c32_23 : ACode := .ops [
    ⟨(some 103), none, .q (.mv (.t 0)), []⟩,
    ⟨(some 104), none, .e (.call 62 [(.t 103), (.v (.int .u8 37))]), []⟩]
def c32_24 : ACode := .seq c32_22 c32_23
def c32_25 : ACode := .ops [
    ⟨(some 106), none, .q (.bin .eql (.t 8) (.v (.int .i64 22))), []⟩,
    ⟨(some 105), none, .q (.mv (.t 106)), []⟩]
def c32_26 : ACode := .ops [
    ⟨(some 107), none, .q (.mv (.t 0)), []⟩,
    ⟨(some 108), none, .q (.fa 2 (.t 3)), []⟩,
    ⟨(some 109), none, .q (.ld none (.t 108)), []⟩,
    ⟨(some 110), none, .e (.call 56 [(.t 107), (.t 109)]), []⟩]
def c32_27 : ACode := .ops [
    ⟨(some 111), none, .q (.mv (.t 0)), []⟩,
    ⟨(some 112), none, .e (.call 62 [(.t 111), (.v (.int .u8 40))]), []⟩]
def c32_28 : ACode := .ops [
    ⟨(some 113), none, .q (.fa 11 (.t 3)), []⟩,
    ⟨(some 114), none, .q (.ld none (.t 113)), []⟩,
    ⟨(some 115), none, .q (.len (.t 114)), []⟩,
    ⟨(some 116), none, .q (.mv (.v (.int .i64 0))), []⟩]
def c32_29 : ACode := .ops [
    ⟨(some 117), none, .q (.bin .lss (.t 116) (.t 115)), []⟩]
def c32_30 : ACode := .cond (.t 117) .skip (.exit 1)
def c32_31 : ACode := .ops [
    ⟨(some 118), none, .q (.mv (.t 116)), []⟩,
    ⟨(some 119), none, .q (.ia 12 (.t 114) (.t 116)), []⟩,
    ⟨(some 120), none, .q (.ld (some 12) (.t 119)), []⟩,
    ⟨(some 5), none, .e (.alloc [(.int .i64 0), (.int .i64 0), (.str []), (.int .i64 0), (.int .i64 0), (.bool false), (.bool false), (.int .i64 0), (.int .i64 0), (.bool false), (.bool false), (.sl .full [])]), []⟩,
    ⟨(some 4), none, .q (.mv (.t 118)), []⟩,
    ⟨none, none, .e (.store 12 (.t 5) (.t 120)), []⟩]
def c32_32 : ACode := .ops [
    ⟨(some 121), none, .q (.mv (.t 4)), []⟩,
    ⟨(some 122), none, .q (.bin .gtr (.t 121) (.v (.int .i64 0))), []⟩]
def c32_33 : ACode := .ops [
    ⟨(some 123), none, .q (.mv (.t 0)), []⟩,
    ⟨(some 124), none, .e (.call 62 [(.t 123), (.v (.int .u8 44))]), []⟩]
def c32_34 : ACode := .cond (.t 122) c32_33 .skip
def c32_35 : ACode := .seq c32_32 c32_34
def c32_36 : ACode := .ops [
    ⟨(some 125), none, .q (.mv (.t 0)), []⟩,
    ⟨(some 126), none, .q (.ld (some 12) (.t 5)), []⟩,
    ⟨(some 127), none, .e (.call 32 [(.t 125), (.t 126)]), []⟩]
def c32_37 : ACode := .seq c32_35 c32_36
def c32_38 : ACode := .seq c32_31 c32_37
def c32_39 : ACode := .block 2 c32_38
def c32_40 : ACode := .ops [
    ⟨(some 128), none, .q (.bin .add (.t 116) (.v (.int .i64 1))), []⟩,
    ⟨(some 116), none, .q (.mv (.t 128)), []⟩]
def c32_41 : ACode := .seq c32_39 c32_40
def c32_42 : ACode := .seq c32_30 c32_41
def c32_43 : ACode := .seq c32_29 c32_42
def c32_44 : ACode := .loop c32_43
def c32_45 : ACode := .block 1 c32_44
def c32_46 : ACode := .seq c32_28 c32_45
def c32_47 : ACode := .ops [
    ⟨(some 129), none, .q (.mv (.t 0)), []⟩,
    ⟨(some 130), none, .e (.call 62 [(.t 129), (.v (.int .u8 41))]), []⟩]
def c32_48 : ACode := .seq c32_46 c32_47
def c32_49 : ACode := .seq c32_27 c32_48
def c32_50 : ACode := .seq c32_26 c32_49
def c32_51 : ACode := .ops [
    ⟨(some 132), none, .q (.bin .eql (.t 8) (.v (.int .i64 23))), []⟩,
    ⟨(some 131), none, .q (.mv (.t 132)), []⟩]
def c32_52 : ACode := .ops [
    ⟨(some 9), none, .q (.fa 0 (.t 3)), []⟩,
    ⟨(some 10), none, .q (.ld none (.t 9)), []⟩,
    ⟨(some 11), none, .e (.call 64 [(.t 10)]), []⟩,
    ⟨(some 6), none, .q (.mv (.t 11)), []⟩]
def c32_53 : ACode := .ops [
    ⟨(some 12), none, .q (.mv (.t 0)), []⟩,
    ⟨(some 13), none, .q (.fa 11 (.t 3)), []⟩,
    ⟨(some 14), none, .q (.ld none (.t 13)), []⟩,
    ⟨(some 15), none, .q (.ia 12 (.t 14) (.v (.int .i64 0))), []⟩,
    ⟨(some 16), none, .q (.ld (some 12) (.t 15)), []⟩,
    ⟨(some 17), none, .q (.mv (.t 6)), []⟩,
    ⟨(some 18), none, .e (.call 63 [(.t 12), (.t 16), (.t 17)]), []⟩]
def c32_54 : ACode := .ops [
    ⟨(some 19), none, .q (.mv (.t 0)), []⟩,
    ⟨(some 21), none, .q (.fa 0 (.t 3)), []⟩,
    ⟨(some 22), none, .q (.ld none (.t 21)), []⟩,
    ⟨(some 23), none, .q (.bin .sub (.t 22) (.v (.int .i64 10))), []⟩,
    ⟨(some 20), none, .e (.call 20 []), [⟨none, .ld none (.t 21), 22⟩]⟩,
    ⟨(some 24), none, .q (.ia 1 (.t 20) (.t 23)), []⟩,
    ⟨(some 25), none, .q (.ld none (.t 24)), []⟩,
    ⟨(some 26), none, .e (.call 56 [(.t 19), (.t 25)]), []⟩]
def c32_55 : ACode := .ops [
    ⟨(some 27), none, .q (.mv (.t 0)), []⟩,
    ⟨(some 28), none, .q (.fa 11 (.t 3)), []⟩,
    ⟨(some 29), none, .q (.ld none (.t 28)), []⟩,
    ⟨(some 30), none, .q (.ia 12 (.t 29) (.v (.int .i64 1))), []⟩,
    ⟨(some 31), none, .q (.ld (some 12) (.t 30)), []⟩,
    ⟨(some 32), none, .q (.mv (.t 6)), []⟩,
    ⟨(some 33), none, .q (.bin .add (.t 32) (.v (.int .i64 1))), []⟩,
    ⟨(some 34), none, .e (.call 63 [(.t 27), (.t 31), (.t 33)]), []⟩]
def c32_56 : ACode := .seq c32_54 c32_55
def c32_57 : ACode := .seq c32_53 c32_56
def c32_58 : ACode := .seq c32_52 c32_57
def c32_59 : ACode := .cond (.t 131) .skip c32_58
def c32_60 : ACode := .seq c32_51 c32_59
def c32_61 : ACode := .cond (.t 105) c32_50 c32_60
def c32_62 : ACode := .seq c32_25 c32_61
def c32_63 : ACode := .cond (.t 95) c32_24 c32_62
def c32_64 : ACode := .seq c32_21 c32_63
def c32_65 : ACode := .cond (.t 80) c32_20 c32_64
def c32_66 : ACode := .seq c32_17 c32_65
def c32_67 : ACode := .cond (.t 70) c32_13 c32_66
def c32_68 : ACode := .seq c32_12 c32_67
def c32_69 : ACode := .cond (.t 63) c32_11 c32_68
def c32_70 : ACode := .seq c32_10 c32_69
def c32_71 : ACode := .cond (.t 57) c32_9 c32_70
def c32_72 : ACode := .seq c32_8 c32_71
def c32_73 : ACode := .cond (.t 49) c32_7 c32_72
def c32_74 : ACode := .seq c32_6 c32_73
def c32_75 : ACode := .cond (.t 42) c32_5 c32_74
def c32_76 : ACode := .seq c32_4 c32_75
def c32_77 : ACode := .cond (.t 35) c32_3 c32_76
def c32_78 : ACode := .seq c32_2 c32_77
def c32_79 : ACode := .block 0 c32_78
def c32_80 : ACode := .seq c32_1 c32_79
def c32_81 : ACode := .seq c32_0 c32_80
@[go_sem] theorem c32_0_wp : type_of% (wp_of c32_0.eq_1) := wp_of c32_0.eq_1
@[go_sem] theorem c32_1_wp : type_of% (wp_of c32_1.eq_1) := wp_of c32_1.eq_1
@[go_sem] theorem c32_2_wp : type_of% (wp_of c32_2.eq_1) := wp_of c32_2.eq_1
@[go_sem] theorem c32_3_wp : type_of% (wp_of c32_3.eq_1) := wp_of c32_3.eq_1
@[go_sem] theorem c32_4_wp : type_of% (wp_of c32_4.eq_1) := wp_of c32_4.eq_1
@[go_sem] theorem c32_5_wp : type_of% (wp_of c32_5.eq_1) := wp_of c32_5.eq_1
@[go_sem] theorem c32_6_wp : type_of% (wp_of c32_6.eq_1) := wp_of c32_6.eq_1
@[go_sem] theorem c32_7_wp : type_of% (wp_of c32_7.eq_1) := wp_of c32_7.eq_1
@[go_sem] theorem c32_8_wp : type_of% (wp_of c32_8.eq_1) := wp_of c32_8.eq_1
@[go_sem] theorem c32_9_wp : type_of% (wp_of c32_9.eq_1) := wp_of c32_9.eq_1
@[go_sem] theorem c32_10_wp : type_of% (wp_of c32_10.eq_1) := wp_of c32_10.eq_1
@[go_sem] theorem c32_11_wp : type_of% (wp_of c32_11.eq_1) := wp_of c32_11.eq_1
@[go_sem] theorem c32_12_wp : type_of% (wp_of c32_12.eq_1) := wp_of c32_12.eq_1
@[go_sem] theorem c32_13_wp : type_of% (wp_of c32_13.eq_1) := wp_of c32_13.eq_1
@[go_sem] theorem c32_14_wp : type_of% (wp_of c32_14.eq_1) := wp_of c32_14.eq_1
@[go_sem] theorem c32_15_wp : type_of% (wp_of c32_15.eq_1) := wp_of c32_15.eq_1
@[go_sem] theorem c32_16_wp : type_of% (wp_of c32_16.eq_1) := wp_of c32_16.eq_1
@[go_sem] theorem c32_17_wp : type_of% (wp_of c32_17.eq_1) := wp_of c32_17.eq_1
@[go_sem] theorem c32_18_wp : type_of% (wp_of c32_18.eq_1) := wp_of c32_18.eq_1
@[go_sem] theorem c32_19_wp : type_of% (wp_of c32_19.eq_1) := wp_of c32_19.eq_1
@[go_sem] theorem c32_20_wp : type_of% (wp_of c32_20.eq_1) := wp_of c32_20.eq_1
@[go_sem] theorem c32_21_wp : type_of% (wp_of c32_21.eq_1) := wp_of c32_21.eq_1
@[go_sem] theorem c32_22_wp : type_of% (wp_of c32_22.eq_1) := wp_of c32_22.eq_1
@[go_sem] theorem c32_23_wp : type_of% (wp_of c32_23.eq_1) := wp_of c32_23.eq_1
@[go_sem] theorem c32_24_wp : type_of% (wp_of c32_24.eq_1) := wp_of c32_24.eq_1
@[go_sem] theorem c32_25_wp : type_of% (wp_of c32_25.eq_1) := wp_of c32_25.eq_1
@[go_sem] theorem c32_26_wp : type_of% (wp_of c32_26.eq_1) := wp_of c32_26.eq_1
@[go_sem] theorem c32_27_wp : type_of% (wp_of c32_27.eq_1) := wp_of c32_27.eq_1
@[go_sem] theorem c32_28_wp : type_of% (wp_of c32_28.eq_1) := wp_of c32_28.eq_1
@[go_sem] theorem c32_29_wp : type_of% (wp_of c32_29.eq_1) := wp_of c32_29.eq_1
@[go_sem] theorem c32_30_wp : type_of% (wp_of c32_30.eq_1) := wp_of c32_30.eq_1
@[go_sem] theorem c32_31_wp : type_of% (wp_of c32_31.eq_1) := wp_of c32_31.eq_1
@[go_sem] theorem c32_32_wp : type_of% (wp_of c32_32.eq_1) := wp_of c32_32.eq_1
@[go_sem] theorem c32_33_wp : type_of% (wp_of c32_33.eq_1) := wp_of c32_33.eq_1
@[go_sem] theorem c32_34_wp : type_of% (wp_of c32_34.eq_1) := wp_of c32_34.eq_1
@[go_sem] theorem c32_35_wp : type_of% (wp_of c32_35.eq_1) := wp_of c32_35.eq_1
@[go_sem] theorem c32_36_wp : type_of% (wp_of c32_36.eq_1) := wp_of c32_36.eq_1
@[go_sem] theorem c32_37_wp : type_of% (wp_of c32_37.eq_1) := wp_of c32_37.eq_1
@[go_sem] theorem c32_38_wp : type_of% (wp_of c32_38.eq_1) := wp_of c32_38.eq_1
@[go_sem] theorem c32_39_wp : type_of% (wp_of c32_39.eq_1) := wp_of c32_39.eq_1
@[go_sem] theorem c32_40_wp : type_of% (wp_of c32_40.eq_1) := wp_of c32_40.eq_1
@[go_sem] theorem c32_41_wp : type_of% (wp_of c32_41.eq_1) := wp_of c32_41.eq_1
@[go_sem] theorem c32_42_wp : type_of% (wp_of c32_42.eq_1) := wp_of c32_42.eq_1
@[go_sem] theorem c32_43_wp : type_of% (wp_of c32_43.eq_1) := wp_of c32_43.eq_1
@[go_sem] theorem c32_44_wp : type_of% (wp_of c32_44.eq_1) := wp_of c32_44.eq_1
@[go_sem] theorem c32_45_wp : type_of% (wp_of c32_45.eq_1) := wp_of c32_45.eq_1
@[go_sem] theorem c32_46_wp : type_of% (wp_of c32_46.eq_1) := wp_of c32_46.eq_1
@[go_sem] theorem c32_47_wp : type_of% (wp_of c32_47.eq_1) := wp_of c32_47.eq_1
@[go_sem] theorem c32_48_wp : type_of% (wp_of c32_48.eq_1) := wp_of c32_48.eq_1
@[go_sem] theorem c32_49_wp : type_of% (wp_of c32_49.eq_1) := wp_of c32_49.eq_1
@[go_sem] theorem c32_50_wp : type_of% (wp_of c32_50.eq_1) := wp_of c32_50.eq_1
@[go_sem] theorem c32_51_wp : type_of% (wp_of c32_51.eq_1) := wp_of c32_51.eq_1
@[go_sem] theorem c32_52_wp : type_of% (wp_of c32_52.eq_1) := wp_of c32_52.eq_1
@[go_sem] theorem c32_53_wp : type_of% (wp_of c32_53.eq_1) := wp_of c32_53.eq_1
@[go_sem] theorem c32_54_wp : type_of% (wp_of c32_54.eq_1) := wp_of c32_54.eq_1
@[go_sem] theorem c32_55_wp : type_of% (wp_of c32_55.eq_1) := wp_of c32_55.eq_1
@[go_sem] theorem c32_56_wp : type_of% (wp_of c32_56.eq_1) := wp_of c32_56.eq_1
@[go_sem] theorem c32_57_wp : type_of% (wp_of c32_57.eq_1) := wp_of c32_57.eq_1
@[go_sem] theorem c32_58_wp : type_of% (wp_of c32_58.eq_1) := wp_of c32_58.eq_1
@[go_sem] theorem c32_59_wp : type_of% (wp_of c32_59.eq_1) := wp_of c32_59.eq_1
@[go_sem] theorem c32_60_wp : type_of% (wp_of c32_60.eq_1) := wp_of c32_60.eq_1
@[go_sem] theorem c32_61_wp : type_of% (wp_of c32_61.eq_1) := wp_of c32_61.eq_1
@[go_sem] theorem c32_62_wp : type_of% (wp_of c32_62.eq_1) := wp_of c32_62.eq_1
@[go_sem] theorem c32_63_wp : type_of% (wp_of c32_63.eq_1) := wp_of c32_63.eq_1
@[go_sem] theorem c32_64_wp : type_of% (wp_of c32_64.eq_1) := wp_of c32_64.eq_1
@[go_sem] theorem c32_65_wp : type_of% (wp_of c32_65.eq_1) := wp_of c32_65.eq_1
@[go_sem] theorem c32_66_wp : type_of% (wp_of c32_66.eq_1) := wp_of c32_66.eq_1
@[go_sem] theorem c32_67_wp : type_of% (wp_of c32_67.eq_1) := wp_of c32_67.eq_1
@[go_sem] theorem c32_68_wp : type_of% (wp_of c32_68.eq_1) := wp_of c32_68.eq_1
@[go_sem] theorem c32_69_wp : type_of% (wp_of c32_69.eq_1) := wp_of c32_69.eq_1
@[go_sem] theorem c32_70_wp : type_of% (wp_of c32_70.eq_1) := wp_of c32_70.eq_1
@[go_sem] theorem c32_71_wp : type_of% (wp_of c32_71.eq_1) := wp_of c32_71.eq_1
@[go_sem] theorem c32_72_wp : type_of% (wp_of c32_72.eq_1) := wp_of c32_72.eq_1
@[go_sem] theorem c32_73_wp : type_of% (wp_of c32_73.eq_1) := wp_of c32_73.eq_1
@[go_sem] theorem c32_74_wp : type_of% (wp_of c32_74.eq_1) := wp_of c32_74.eq_1
@[go_sem] theorem c32_75_wp : type_of% (wp_of c32_75.eq_1) := wp_of c32_75.eq_1
@[go_sem] theorem c32_76_wp : type_of% (wp_of c32_76.eq_1) := wp_of c32_76.eq_1
@[go_sem] theorem c32_77_wp : type_of% (wp_of c32_77.eq_1) := wp_of c32_77.eq_1
@[go_sem] theorem c32_78_wp : type_of% (wp_of c32_78.eq_1) := wp_of c32_78.eq_1
@[go_sem] theorem c32_79_wp : type_of% (wp_of c32_79.eq_1) := wp_of c32_79.eq_1
@[go_sem] theorem c32_80_wp : type_of% (wp_of c32_80.eq_1) := wp_of c32_80.eq_1
@[go_sem] theorem c32_81_wp : type_of% (wp_of c32_81.eq_1) := wp_of c32_81.eq_1
def c32 : AFn := ⟨133, [], c32_81⟩
set_option maxRecDepth 100000 in
theorem c32_ok : compF Tryz.prog Tryz.f32 = some c32 := by kernel_rfl
theorem a32 {args : List AV} {σ : ASt} {R : AV → ASt → Prop} (hl : args.length ≤ 133) (h : c32_81.wp Tryz.prog (RetQ [] R) (init args) σ) : ACalls Tryz.prog 32 args σ R := acalls_of Tryz.func32 c32_ok hl h
/-! 63: tabular/expr.inside -/
def c63_0 : ACode := .ops [
    ⟨(some 4), none, .e (.box (.t 1)), []⟩]
def c63_1 : ACode := .ops [
    ⟨(some 6), none, .q (.fa 0 (.t 4)), []⟩,
    ⟨(some 7), none, .q (.ld none (.t 6)), []⟩,
    ⟨(some 8), none, .e (.call 64 [(.t 7)]), []⟩,
    ⟨(some 9), none, .q (.mv (.t 2)), []⟩,
    ⟨(some 10), none, .q (.bin .geq (.t 8) (.t 9)), []⟩]
def c63_2 : ACode := .ops [
    ⟨(some 11), none, .q (.mv (.t 0)), []⟩,
    ⟨(some 12), none, .q (.ld (some 12) (.t 4)), []⟩,
    ⟨(some 13), none, .e (.call 32 [(.t 11), (.t 12)]), []⟩]
def c63_3 : ACode := .seq c63_2 .ret
def c63_4 : ACode := .cond (.t 10) c63_3 .skip
def c63_5 : ACode := .seq c63_1 c63_4
def c63_6 : ACode := .ops [
    ⟨(some 14), none, .q (.mv (.t 0)), []⟩,
    ⟨(some 15), none, .e (.call 62 [(.t 14), (.v (.int .u8 40))]), []⟩]
def c63_7 : ACode := .ops [
    ⟨(some 16), none, .q (.mv (.t 0)), []⟩,
    ⟨(some 17), none, .q (.ld (some 12) (.t 4)), []⟩,
    ⟨(some 18), none, .e (.call 32 [(.t 16), (.t 17)]), []⟩]
def c63_8 : ACode := .ops [
    ⟨(some 19), none, .q (.mv (.t 0)), []⟩,
    ⟨(some 20), none, .e (.call 62 [(.t 19), (.v (.int .u8 41))]), []⟩]
def c63_9 : ACode := .seq c63_7 c63_8
def c63_10 : ACode := .seq c63_6 c63_9
def c63_11 : ACode := .seq c63_5 c63_10
def c63_12 : ACode := .seq c63_0 c63_11
@[go_sem] theorem c63_0_wp : type_of% (wp_of c63_0.eq_1) := wp_of c63_0.eq_1
@[go_sem] theorem c63_1_wp : type_of% (wp_of c63_1.eq_1) := wp_of c63_1.eq_1
@[go_sem] theorem c63_2_wp : type_of% (wp_of c63_2.eq_1) := wp_of c63_2.eq_1
@[go_sem] theorem c63_3_wp : type_of% (wp_of c63_3.eq_1) := wp_of c63_3.eq_1
@[go_sem] theorem c63_4_wp : type_of% (wp_of c63_4.eq_1) := wp_of c63_4.eq_1
@[go_sem] theorem c63_5_wp : type_of% (wp_of c63_5.eq_1) := wp_of c63_5.eq_1
@[go_sem] theorem c63_6_wp : type_of% (wp_of c63_6.eq_1) := wp_of c63_6.eq_1
@[go_sem] theorem c63_7_wp : type_of% (wp_of c63_7.eq_1) := wp_of c63_7.eq_1
@[go_sem] theorem c63_8_wp : type_of% (wp_of c63_8.eq_1) := wp_of c63_8.eq_1
@[go_sem] theorem c63_9_wp : type_of% (wp_of c63_9.eq_1) := wp_of c63_9.eq_1
@[go_sem] theorem c63_10_wp : type_of% (wp_of c63_10.eq_1) := wp_of c63_10.eq_1
@[go_sem] theorem c63_11_wp : type_of% (wp_of c63_11.eq_1) := wp_of c63_11.eq_1
@[go_sem] theorem c63_12_wp : type_of% (wp_of c63_12.eq_1) := wp_of c63_12.eq_1
def c63 : AFn := ⟨21, [], c63_12⟩
set_option maxRecDepth 100000 in
theorem c63_ok : compF Tryz.prog Tryz.f63 = some c63 := by kernel_rfl
theorem a63 {args : List AV} {σ : ASt} {R : AV → ASt → Prop} (hl : args.length ≤ 21) (h : c63_12.wp Tryz.prog (RetQ [] R) (init args) σ) : ACalls Tryz.prog 63 args σ R := acalls_of Tryz.func63 c63_ok hl h
end Go.A
namespace Go.A
open Go.Proofs Go.Lib
set_option maxRecDepth 100000
set_option linter.unusedSimpArgs false
set_option linter.unusedVariables false
theorem BD.tab {σ0 σ : ASt} {b : Nat} {l : List UInt8} (h : BD σ0 b l σ) (hb : σ0 b = none) (hT : Tab σ0) : Tab σ := h.at (by intro e; unfold Tab at hT; rw [e, hb] at hT; cases hT) hT
theorem BD.maxL {σ0 σ : ASt} {b : Nat} {l : List UInt8} (h : BD σ0 b l σ) (hb : σ0 b = none) (hM : MaxL σ0) : MaxL σ := by
  obtain ⟨m, hm⟩ := hM
  exact ⟨m, h.at (by intro e; rw [e, hb] at hm; cases hm) hm⟩
theorem MaxL.set {σ : ASt} {b : Nat} {r : Option Role} (h : MaxL σ) (hb : σ b = none) : MaxL (σ.set b r) := by
  obtain ⟨m, hm⟩ := h
  exact ⟨m, by rw [ASt.set_ne]; exact hm; intro e; rw [e, hb] at hm; cases hm⟩
def SpellOk (n : Nd) : Prop := ∀ (σ0 σ : ASt) (b : Nat) (l : List UInt8), BD σ0 b l σ → σ0 b = none → Tab σ0 → MaxL σ0 → l.length + n.spell.length ≤ 900000 →
    ACalls Tryz.prog 32 [.ptr b 0, n.av] σ fun v σ' => v = .tuple [] ∧ BD σ0 b (l ++ n.spell) σ'
theorem inside_ok {n : Nd} (hs : SpellOk n) (ho : 1 ≤ n.op ∧ n.op ≤ 23) (least : Int) {σ0 σ : ASt} {b : Nat} {l : List UInt8} (h : BD σ0 b l σ) (hb : σ0 b = none) (hT : Tab σ0) (hM : MaxL σ0) (hl : l.length + (insT least n.op n.spell).length ≤ 900000) :
    ACalls Tryz.prog 63 [.ptr b 0, n.av, .int .i64 least] σ fun v σ' => v = .tuple [] ∧ BD σ0 b (l ++ insT least n.op n.spell) σ' := by
  have hL := level_ok n.op (by omega) (by omega)
  have hS : ∀ {σ0 σ : ASt} {b : Nat} {l : List UInt8}, BD σ0 b l σ → σ0 b = none → Tab σ0 → MaxL σ0 → l.length + n.spell.length ≤ 900000 →
    ACalls Tryz.prog 32 [.ptr b 0, n.av] σ fun v σ' => v = .tuple [] ∧ BD σ0 b (l ++ n.spell) σ' := fun {_ _ _ _} => hs _ _ _ _
  clear hs
  obtain ⟨op, m, s, a, d, kids⟩ := n
  rw [Nd.av_cs] at hS ⊢
  generalize (Nd.mk op m s a d kids).spell = t at *
  simp only [Nd.op] at hL hl ho ⊢
  generalize kids.map Nd.av = L at *
  refine a63 (by simp) ?_
  simp (disch := first | assumption | omega | (simp only [List.length_append, List.length_cons, List.length_nil]; omega)) only [go_sem, reduceCtorEq, Nat.reduceEqDiff, Nat.reduceAdd, Nat.reduceSub, Nat.reduceMul, Nat.reduceLeDiff, Int.reduceLT, Int.reduceLE, Int.reduceEq, ↓reduceIte, Int.reduceNeg, Int.reduceAdd, Int.reduceSub, Int.reduceMul, true_imp_iff, forall_const, Nat.mul_one, Int.reduceToNat, Nat.reducePow, Int.reducePow, Bool.true_and, Bool.false_and, Bool.and_false]
  refine boxC_by rfl fun c hc => ?_
  obtain ⟨hB, hcb, hc0⟩ := h.add hc (r := .obj (Nd.cs op m s a d L))
  have hb1 : (σ0.set c (some (.obj (Nd.cs op m s a d L)))) b = none := by rw [ASt.set_ne (Ne.symm hcb)]; exact hb
  have hT1 := hT.set hc0 (r := some (.obj (Nd.cs op m s a d L)))
  have hM1 := hM.set hc0 (r := some (.obj (Nd.cs op m s a d L)))
  have hcell : ∀ {l' : List UInt8} {σ1 : ASt}, BD (σ0.set c (some (.obj (Nd.cs op m s a d L)))) b l' σ1 → σ1 c = some (.obj (Nd.cs op m s a d L)) := fun h => h.at hcb (ASt.set_same _ _ _)
  have hoff : ∀ {l' : List UInt8} {σ1 : ASt}, BD (σ0.set c (some (.obj (Nd.cs op m s a d L)))) b l' σ1 → ∃ σ', Drop σ1 σ' ∧ BD σ0 b l' σ' := fun h => h.off hcb hc0
  have hc1 := hcell hB
  rw [cells_agg]
  generalize σ0.set c (some (.obj (Nd.cs op m s a d L))) = τ at hB hb1 hT1 hM1 hcell hoff
  generalize σ.set c (some (.obj (Nd.cs op m s a d L))) = σ1 at hB hc1 ⊢
  unfold insT at hl ⊢
  by_cases hlv : least ≤ levelP op
  · rw [if_pos hlv] at hl ⊢
    generalize levelP op = lv at *
    simp (disch := first | assumption | omega | (simp only [List.length_append, List.length_cons, List.length_nil]; omega)) only [go_sem, reduceCtorEq, Nat.reduceEqDiff, Nat.reduceAdd, Nat.reduceSub, Nat.reduceMul, Nat.reduceLeDiff, Int.reduceLT, Int.reduceLE, Int.reduceEq, ↓reduceIte, Int.reduceNeg, Int.reduceAdd, Int.reduceSub, Int.reduceMul, true_imp_iff, forall_const, Nat.mul_one, Int.reduceToNat, Nat.reducePow, Int.reducePow, Bool.true_and, Bool.false_and, Bool.and_false, hc1]
    refine hL.use ?_
    simp (disch := first | assumption | omega | (simp only [List.length_append, List.length_cons, List.length_nil]; omega)) only [go_sem, reduceCtorEq, Nat.reduceEqDiff, Nat.reduceAdd, Nat.reduceSub, Nat.reduceMul, Nat.reduceLeDiff, Int.reduceLT, Int.reduceLE, Int.reduceEq, ↓reduceIte, Int.reduceNeg, Int.reduceAdd, Int.reduceSub, Int.reduceMul, true_imp_iff, forall_const, Nat.mul_one, Int.reduceToNat, Nat.reducePow, Int.reducePow, Bool.true_and, Bool.false_and, Bool.and_false, hc1, hlv]
    refine (hS hB hb1 hT1 hM1 hl).mono ?_
    rintro v σ2 ⟨rfl, hB2⟩
    simp (disch := first | assumption | omega | (simp only [List.length_append, List.length_cons, List.length_nil]; omega)) only [go_sem, reduceCtorEq, Nat.reduceEqDiff, Nat.reduceAdd, Nat.reduceSub, Nat.reduceMul, Nat.reduceLeDiff, Int.reduceLT, Int.reduceLE, Int.reduceEq, ↓reduceIte, Int.reduceNeg, Int.reduceAdd, Int.reduceSub, Int.reduceMul, true_imp_iff, forall_const, Nat.mul_one, Int.reduceToNat, Nat.reducePow, Int.reducePow, Bool.true_and, Bool.false_and, Bool.and_false]
    obtain ⟨σ3, hd, hB3⟩ := hoff hB2
    exact retC_by hd (.refl _) ⟨rfl, hB3⟩
  · rw [if_neg hlv] at hl ⊢
    generalize levelP op = lv at *
    simp only [List.length_append, List.length_cons, List.length_nil] at hl
    simp (disch := first | assumption | omega | (simp only [List.length_append, List.length_cons, List.length_nil]; omega)) only [go_sem, reduceCtorEq, Nat.reduceEqDiff, Nat.reduceAdd, Nat.reduceSub, Nat.reduceMul, Nat.reduceLeDiff, Int.reduceLT, Int.reduceLE, Int.reduceEq, ↓reduceIte, Int.reduceNeg, Int.reduceAdd, Int.reduceSub, Int.reduceMul, true_imp_iff, forall_const, Nat.mul_one, Int.reduceToNat, Nat.reducePow, Int.reducePow, Bool.true_and, Bool.false_and, Bool.and_false, hc1]
    refine hL.use ?_
    simp (disch := first | assumption | omega | (simp only [List.length_append, List.length_cons, List.length_nil]; omega)) only [go_sem, reduceCtorEq, Nat.reduceEqDiff, Nat.reduceAdd, Nat.reduceSub, Nat.reduceMul, Nat.reduceLeDiff, Int.reduceLT, Int.reduceLE, Int.reduceEq, ↓reduceIte, Int.reduceNeg, Int.reduceAdd, Int.reduceSub, Int.reduceMul, true_imp_iff, forall_const, Nat.mul_one, Int.reduceToNat, Nat.reducePow, Int.reducePow, Bool.true_and, Bool.false_and, Bool.and_false, hc1, hlv]
    refine (writeByte_ok hB 40 (by omega)).mono ?_
    rintro v σ2 ⟨rfl, hB2⟩
    have hc2 := hcell hB2
    simp (disch := first | assumption | omega | (simp only [List.length_append, List.length_cons, List.length_nil]; omega)) only [go_sem, reduceCtorEq, Nat.reduceEqDiff, Nat.reduceAdd, Nat.reduceSub, Nat.reduceMul, Nat.reduceLeDiff, Int.reduceLT, Int.reduceLE, Int.reduceEq, ↓reduceIte, Int.reduceNeg, Int.reduceAdd, Int.reduceSub, Int.reduceMul, true_imp_iff, forall_const, Nat.mul_one, Int.reduceToNat, Nat.reducePow, Int.reducePow, Bool.true_and, Bool.false_and, Bool.and_false, hc2]
    refine (hS hB2 hb1 hT1 hM1 (by simp only [List.length_append, List.length_cons, List.length_nil]; omega)).mono ?_
    rintro v σ3 ⟨rfl, hB3⟩
    simp (disch := first | assumption | omega | (simp only [List.length_append, List.length_cons, List.length_nil]; omega)) only [go_sem, reduceCtorEq, Nat.reduceEqDiff, Nat.reduceAdd, Nat.reduceSub, Nat.reduceMul, Nat.reduceLeDiff, Int.reduceLT, Int.reduceLE, Int.reduceEq, ↓reduceIte, Int.reduceNeg, Int.reduceAdd, Int.reduceSub, Int.reduceMul, true_imp_iff, forall_const, Nat.mul_one, Int.reduceToNat, Nat.reducePow, Int.reducePow, Bool.true_and, Bool.false_and, Bool.and_false]
    refine (writeByte_ok hB3 41 (by simp only [List.length_append, List.length_cons, List.length_nil]; omega)).mono ?_
    rintro v σ4 ⟨rfl, hB4⟩
    simp (disch := first | assumption | omega | (simp only [List.length_append, List.length_cons, List.length_nil]; omega)) only [go_sem, reduceCtorEq, Nat.reduceEqDiff, Nat.reduceAdd, Nat.reduceSub, Nat.reduceMul, Nat.reduceLeDiff, Int.reduceLT, Int.reduceLE, Int.reduceEq, ↓reduceIte, Int.reduceNeg, Int.reduceAdd, Int.reduceSub, Int.reduceMul, true_imp_iff, forall_const, Nat.mul_one, Int.reduceToNat, Nat.reducePow, Int.reducePow, Bool.true_and, Bool.false_and, Bool.and_false]
    obtain ⟨σ5, hd, hB5⟩ := hoff hB4
    refine retC_by hd (.refl _) ⟨rfl, ?_⟩
    have e : l ++ 40 :: (t ++ [41]) = l ++ [40] ++ t ++ [41] := by simp
    rw [e]; exact hB5
theorem textD_ne (n : Int) : textD n ≠ [] := by
  unfold textD
  have := dd_len_pos (n.natAbs / 10000)
  intro h
  rw [List.append_eq_nil_iff, List.append_eq_nil_iff] at h
  exact this h.2.1
theorem failT_ne {n : Int} (h1 : 1 ≤ n.tdiv 10000) (h2 : n.tdiv 10000 ≤ 7) : failT 4 n ≠ [] := by
  unfold failT
  generalize n.tdiv 10000 = i at *
  rw [if_neg (by omega)]
  have hc : i = 1 ∨ i = 2 ∨ i = 3 ∨ i = 4 ∨ i = 5 ∨ i = 6 ∨ i = 7 := by omega
  rcases hc with rfl | rfl | rfl | rfl | rfl | rfl | rfl <;> decide
theorem truthP_ne (b : Bool) : truthP b ≠ [] := by cases b <;> decide
theorem joinC_snoc : ∀ (L : List (Int × List UInt8)) (p : Int × List UInt8), L ≠ [] → joinC (L ++ [p]) = joinC L ++ 44 :: p.2
  | [], p, h => absurd rfl h
  | q :: r, p, _ => by simp [joinC]
theorem joinC_take_le : ∀ (L : List (Int × List UInt8)) (i : Nat), (joinC (L.take i)).length ≤ (joinC L).length
  | [], i => by simp
  | q :: r, 0 => by simp [joinC]
  | q :: r, i + 1 => by
    rw [List.take_succ_cons]
    simp only [joinC, List.length_append]
    have : ∀ (r : List (Int × List UInt8)) (i : Nat), ((r.take i).flatMap fun q => 44 :: q.2).length ≤ (r.flatMap fun q => 44 :: q.2).length := by
      intro r
      induction r with
      | nil => intro i; simp
      | cons x r ih =>
        intro i
        cases i with
        | zero => simp
        | succ i => rw [List.take_succ_cons, List.flatMap_cons, List.flatMap_cons, List.length_append, List.length_append]; have := ih i; omega
    have := this r i
    omega
theorem textP_ne {r : Ref} (h : r.good = true) : textP r ≠ [] := by
  intro e
  have := (text_len h).1
  rw [e] at this
  simp at this
theorem sign_len (k : Nat) : (signL.getD k []).length ≤ 2 := by
  unfold signL
  rcases k with _|_|_|_|_|_|_|_|_|_|_|_|k <;> simp
set_option maxHeartbeats 2000000 in
theorem spell_ok : ∀ (k : Nat) (n : Nd), n.size ≤ k → n.ok → SpellOk n
  | 0, n, hk, _ => by have := n.size_pos; omega
  | k + 1, n, hk, hn => by
    have ih := spell_ok k
    intro σ0 σ b l h hb hT hM hl
    obtain ⟨op, m, s, a, d, kids⟩ := n
    rw [Nd.size] at hk
    rw [Nd.ok] at hn
    obtain ⟨⟨ho, g1, g2, g4, gc, g5, g6, g7, gb, gk⟩, hks⟩ := hn
    have hkid : ∀ x ∈ kids, SpellOk x ∧ 1 ≤ x.op ∧ x.op ≤ 23 := fun x hx => by
      have h1 := Nd.size_kid hx
      have h2 := Nd.oks_mem.1 hks x hx
      refine ⟨ih x (by omega) h2, ?_⟩
      obtain ⟨o', _, _, _, _, _⟩ := x
      rw [Nd.ok] at h2
      exact h2.1.1
    obtain ⟨w, hw⟩ : ∃ w, (Nd.mk op m s a d kids).spell = w := ⟨_, rfl⟩
    rw [hw] at hl ⊢
    rw [Nd.spell, Nd.spells_map] at hw
    unfold spellK at hw
    rw [Nd.av_cs]
    refine a32 (by simp) ?_
    simp (disch := first | assumption | omega | (simp only [List.length_append, List.length_cons, List.length_nil]; omega)) only [go_sem, reduceCtorEq, Nat.reduceEqDiff, Nat.reduceAdd, Nat.reduceSub, Nat.reduceMul, Nat.reduceLeDiff, Int.reduceLT, Int.reduceLE, Int.reduceEq, ↓reduceIte, Int.reduceNeg, Int.reduceAdd, Int.reduceSub, Int.reduceMul, true_imp_iff, forall_const, Nat.mul_one, Int.reduceToNat, Nat.reducePow, Int.reducePow, Bool.true_and, Bool.false_and, Bool.and_false]
    refine boxC_by rfl fun c hc => ?_
    obtain ⟨hB, hcb, hc0⟩ := h.add hc (r := .obj (Nd.cs op m s a d (kids.map Nd.av)))
    have hb1 : (σ0.set c (some (.obj (Nd.cs op m s a d (kids.map Nd.av))))) b = none := by rw [ASt.set_ne (Ne.symm hcb)]; exact hb
    have hT1 := hT.set hc0 (r := some (.obj (Nd.cs op m s a d (kids.map Nd.av))))
    have hM1 := hM.set hc0 (r := some (.obj (Nd.cs op m s a d (kids.map Nd.av))))
    have hcell : ∀ {l' : List UInt8} {σ1 : ASt}, BD (σ0.set c (some (.obj (Nd.cs op m s a d (kids.map Nd.av))))) b l' σ1 → σ1 c = some (.obj (Nd.cs op m s a d (kids.map Nd.av))) := fun h => h.at hcb (ASt.set_same _ _ _)
    have hoff : ∀ {l' : List UInt8} {σ1 : ASt}, BD (σ0.set c (some (.obj (Nd.cs op m s a d (kids.map Nd.av))))) b l' σ1 → ∃ σ', Drop σ1 σ' ∧ BD σ0 b l' σ' := fun h => h.off hcb hc0
    have hc1 := hcell hB
    rw [cells_agg]
    generalize σ0.set c (some (.obj (Nd.cs op m s a d (kids.map Nd.av)))) = τ at hB hb1 hT1 hM1 hcell hoff
    generalize σ.set c (some (.obj (Nd.cs op m s a d (kids.map Nd.av)))) = σ1 at hB hc1 ⊢
    have hT2 := BD.tab hB hb1 hT1
    have hM2 := BD.maxL hB hb1 hM1
    by_cases h1 : op = 1
    · subst h1
      rw [if_pos rfl] at hw
      subst hw
      simp (disch := first | assumption | omega | (simp only [List.length_append, List.length_cons, List.length_nil]; omega)) only [go_sem, reduceCtorEq, Nat.reduceEqDiff, Nat.reduceAdd, Nat.reduceSub, Nat.reduceMul, Nat.reduceLeDiff, Int.reduceLT, Int.reduceLE, Int.reduceEq, ↓reduceIte, Int.reduceNeg, Int.reduceAdd, Int.reduceSub, Int.reduceMul, true_imp_iff, forall_const, Nat.mul_one, Int.reduceToNat, Nat.reducePow, Int.reducePow, Bool.true_and, Bool.false_and, Bool.and_false, hc1]
      refine (dtext_ok hT2 (g1 rfl)).mono ?_
      rintro v σ' ⟨rfl, rfl⟩
      simp (disch := first | assumption | omega | (simp only [List.length_append, List.length_cons, List.length_nil]; omega)) only [go_sem, reduceCtorEq, Nat.reduceEqDiff, Nat.reduceAdd, Nat.reduceSub, Nat.reduceMul, Nat.reduceLeDiff, Int.reduceLT, Int.reduceLE, Int.reduceEq, ↓reduceIte, Int.reduceNeg, Int.reduceAdd, Int.reduceSub, Int.reduceMul, true_imp_iff, forall_const, Nat.mul_one, Int.reduceToNat, Nat.reducePow, Int.reducePow, Bool.true_and, Bool.false_and, Bool.and_false]
      refine (writes1_ok hB _ (textD_ne m) (by omega)).mono ?_
      rintro v σ2 ⟨rfl, hB2⟩
      simp (disch := first | assumption | omega | (simp only [List.length_append, List.length_cons, List.length_nil]; omega)) only [go_sem, reduceCtorEq, Nat.reduceEqDiff, Nat.reduceAdd, Nat.reduceSub, Nat.reduceMul, Nat.reduceLeDiff, Int.reduceLT, Int.reduceLE, Int.reduceEq, ↓reduceIte, Int.reduceNeg, Int.reduceAdd, Int.reduceSub, Int.reduceMul, true_imp_iff, forall_const, Nat.mul_one, Int.reduceToNat, Nat.reducePow, Int.reducePow, Bool.true_and, Bool.false_and, Bool.and_false]
      obtain ⟨σ3, hd, hB3⟩ := hoff hB2
      exact retC_by hd (.refl _) ⟨rfl, hB3⟩
    rw [if_neg h1] at hw
    by_cases h2 : op = 2
    · subst h2
      rw [if_pos rfl] at hw
      have hQ2 := tquote_ok hM2 s (g2 rfl)
      have hQ : quotT s = 34 :: dbl s ++ [34] := rfl
      rw [hQ] at hw
      rw [hw] at hQ2
      have hwn : w ≠ [] := by rw [← hw]; simp
      simp (disch := first | assumption | omega | (simp only [List.length_append, List.length_cons, List.length_nil]; omega)) only [go_sem, reduceCtorEq, Nat.reduceEqDiff, Nat.reduceAdd, Nat.reduceSub, Nat.reduceMul, Nat.reduceLeDiff, Int.reduceLT, Int.reduceLE, Int.reduceEq, ↓reduceIte, Int.reduceNeg, Int.reduceAdd, Int.reduceSub, Int.reduceMul, true_imp_iff, forall_const, Nat.mul_one, Int.reduceToNat, Nat.reducePow, Int.reducePow, Bool.true_and, Bool.false_and, Bool.and_false, hc1]
      refine hQ2.mono ?_
      rintro v σ' ⟨rfl, rfl⟩
      simp (disch := first | assumption | omega | (simp only [List.length_append, List.length_cons, List.length_nil]; omega)) only [go_sem, reduceCtorEq, Nat.reduceEqDiff, Nat.reduceAdd, Nat.reduceSub, Nat.reduceMul, Nat.reduceLeDiff, Int.reduceLT, Int.reduceLE, Int.reduceEq, ↓reduceIte, Int.reduceNeg, Int.reduceAdd, Int.reduceSub, Int.reduceMul, true_imp_iff, forall_const, Nat.mul_one, Int.reduceToNat, Nat.reducePow, Int.reducePow, Bool.true_and, Bool.false_and, Bool.and_false]
      refine (writes1_ok hB _ hwn (by omega)).mono ?_
      rintro v σ2 ⟨rfl, hB2⟩
      simp (disch := first | assumption | omega | (simp only [List.length_append, List.length_cons, List.length_nil]; omega)) only [go_sem, reduceCtorEq, Nat.reduceEqDiff, Nat.reduceAdd, Nat.reduceSub, Nat.reduceMul, Nat.reduceLeDiff, Int.reduceLT, Int.reduceLE, Int.reduceEq, ↓reduceIte, Int.reduceNeg, Int.reduceAdd, Int.reduceSub, Int.reduceMul, true_imp_iff, forall_const, Nat.mul_one, Int.reduceToNat, Nat.reducePow, Int.reducePow, Bool.true_and, Bool.false_and, Bool.and_false]
      obtain ⟨σ3, hd, hB3⟩ := hoff hB2
      exact retC_by hd (.refl _) ⟨rfl, hB3⟩
    rw [if_neg h2] at hw
    by_cases h3 : op = 3
    · subst h3
      rw [if_pos rfl] at hw
      have hQ := truth_ok (!decide (m = 0))
      have hwn : w ≠ [] := by rw [← hw]; exact truthP_ne _
      rw [hw] at hQ
      simp (disch := first | assumption | omega | (simp only [List.length_append, List.length_cons, List.length_nil]; omega)) only [go_sem, reduceCtorEq, Nat.reduceEqDiff, Nat.reduceAdd, Nat.reduceSub, Nat.reduceMul, Nat.reduceLeDiff, Int.reduceLT, Int.reduceLE, Int.reduceEq, ↓reduceIte, Int.reduceNeg, Int.reduceAdd, Int.reduceSub, Int.reduceMul, true_imp_iff, forall_const, Nat.mul_one, Int.reduceToNat, Nat.reducePow, Int.reducePow, Bool.true_and, Bool.false_and, Bool.and_false, hc1]
      refine hQ.use ?_
      simp (disch := first | assumption | omega | (simp only [List.length_append, List.length_cons, List.length_nil]; omega)) only [go_sem, reduceCtorEq, Nat.reduceEqDiff, Nat.reduceAdd, Nat.reduceSub, Nat.reduceMul, Nat.reduceLeDiff, Int.reduceLT, Int.reduceLE, Int.reduceEq, ↓reduceIte, Int.reduceNeg, Int.reduceAdd, Int.reduceSub, Int.reduceMul, true_imp_iff, forall_const, Nat.mul_one, Int.reduceToNat, Nat.reducePow, Int.reducePow, Bool.true_and, Bool.false_and, Bool.and_false]
      refine (writes1_ok hB _ hwn (by omega)).mono ?_
      rintro v σ2 ⟨rfl, hB2⟩
      simp (disch := first | assumption | omega | (simp only [List.length_append, List.length_cons, List.length_nil]; omega)) only [go_sem, reduceCtorEq, Nat.reduceEqDiff, Nat.reduceAdd, Nat.reduceSub, Nat.reduceMul, Nat.reduceLeDiff, Int.reduceLT, Int.reduceLE, Int.reduceEq, ↓reduceIte, Int.reduceNeg, Int.reduceAdd, Int.reduceSub, Int.reduceMul, true_imp_iff, forall_const, Nat.mul_one, Int.reduceToNat, Nat.reducePow, Int.reducePow, Bool.true_and, Bool.false_and, Bool.and_false]
      obtain ⟨σ3, hd, hB3⟩ := hoff hB2
      exact retC_by hd (.refl _) ⟨rfl, hB3⟩
    rw [if_neg h3] at hw
    by_cases h4 : op = 4
    · subst h4
      rw [if_pos rfl] at hw
      obtain ⟨f1, f2⟩ := g4 rfl
      have hwn : w ≠ [] := by rw [← hw]; exact failT_ne f1 f2
      have hmb : m.natAbs ≤ 999999999999999999 := by have : (m.tdiv 10000).natAbs = m.natAbs / 10000 := Int.natAbs_tdiv m 10000; omega
      have hQ := failure_ok 4 m s a d kids hmb
      rw [Nd.av_cs, hw] at hQ
      simp (disch := first | assumption | omega | (simp only [List.length_append, List.length_cons, List.length_nil]; omega)) only [go_sem, reduceCtorEq, Nat.reduceEqDiff, Nat.reduceAdd, Nat.reduceSub, Nat.reduceMul, Nat.reduceLeDiff, Int.reduceLT, Int.reduceLE, Int.reduceEq, ↓reduceIte, Int.reduceNeg, Int.reduceAdd, Int.reduceSub, Int.reduceMul, true_imp_iff, forall_const, Nat.mul_one, Int.reduceToNat, Nat.reducePow, Int.reducePow, Bool.true_and, Bool.false_and, Bool.and_false, hc1]
      refine hQ.use ?_
      simp (disch := first | assumption | omega | (simp only [List.length_append, List.length_cons, List.length_nil]; omega)) only [go_sem, reduceCtorEq, Nat.reduceEqDiff, Nat.reduceAdd, Nat.reduceSub, Nat.reduceMul, Nat.reduceLeDiff, Int.reduceLT, Int.reduceLE, Int.reduceEq, ↓reduceIte, Int.reduceNeg, Int.reduceAdd, Int.reduceSub, Int.reduceMul, true_imp_iff, forall_const, Nat.mul_one, Int.reduceToNat, Nat.reducePow, Int.reducePow, Bool.true_and, Bool.false_and, Bool.and_false]
      refine (writes1_ok hB _ hwn (by omega)).mono ?_
      rintro v σ2 ⟨rfl, hB2⟩
      simp (disch := first | assumption | omega | (simp only [List.length_append, List.length_cons, List.length_nil]; omega)) only [go_sem, reduceCtorEq, Nat.reduceEqDiff, Nat.reduceAdd, Nat.reduceSub, Nat.reduceMul, Nat.reduceLeDiff, Int.reduceLT, Int.reduceLE, Int.reduceEq, ↓reduceIte, Int.reduceNeg, Int.reduceAdd, Int.reduceSub, Int.reduceMul, true_imp_iff, forall_const, Nat.mul_one, Int.reduceToNat, Nat.reducePow, Int.reducePow, Bool.true_and, Bool.false_and, Bool.and_false]
      obtain ⟨σ3, hd, hB3⟩ := hoff hB2
      exact retC_by hd (.refl _) ⟨rfl, hB3⟩
    rw [if_neg h4] at hw
    by_cases h5 : op = 5
    · subst h5
      rw [if_pos rfl] at hw
      have hQ := text_ok hT2 (g5 (.inl rfl))
      have hwn : w ≠ [] := by rw [← hw]; exact textP_ne (g5 (.inl rfl))
      rw [hw] at hQ
      unfold refAV at hQ
      simp (disch := first | assumption | omega | (simp only [List.length_append, List.length_cons, List.length_nil]; omega)) only [go_sem, reduceCtorEq, Nat.reduceEqDiff, Nat.reduceAdd, Nat.reduceSub, Nat.reduceMul, Nat.reduceLeDiff, Int.reduceLT, Int.reduceLE, Int.reduceEq, ↓reduceIte, Int.reduceNeg, Int.reduceAdd, Int.reduceSub, Int.reduceMul, true_imp_iff, forall_const, Nat.mul_one, Int.reduceToNat, Nat.reducePow, Int.reducePow, Bool.true_and, Bool.false_and, Bool.and_false, hc1]
      refine hQ.mono ?_
      rintro v σ' ⟨rfl, rfl⟩
      simp (disch := first | assumption | omega | (simp only [List.length_append, List.length_cons, List.length_nil]; omega)) only [go_sem, reduceCtorEq, Nat.reduceEqDiff, Nat.reduceAdd, Nat.reduceSub, Nat.reduceMul, Nat.reduceLeDiff, Int.reduceLT, Int.reduceLE, Int.reduceEq, ↓reduceIte, Int.reduceNeg, Int.reduceAdd, Int.reduceSub, Int.reduceMul, true_imp_iff, forall_const, Nat.mul_one, Int.reduceToNat, Nat.reducePow, Int.reducePow, Bool.true_and, Bool.false_and, Bool.and_false]
      refine (writes1_ok hB _ hwn (by omega)).mono ?_
      rintro v σ2 ⟨rfl, hB2⟩
      simp (disch := first | assumption | omega | (simp only [List.length_append, List.length_cons, List.length_nil]; omega)) only [go_sem, reduceCtorEq, Nat.reduceEqDiff, Nat.reduceAdd, Nat.reduceSub, Nat.reduceMul, Nat.reduceLeDiff, Int.reduceLT, Int.reduceLE, Int.reduceEq, ↓reduceIte, Int.reduceNeg, Int.reduceAdd, Int.reduceSub, Int.reduceMul, true_imp_iff, forall_const, Nat.mul_one, Int.reduceToNat, Nat.reducePow, Int.reducePow, Bool.true_and, Bool.false_and, Bool.and_false]
      obtain ⟨σ3, hd, hB3⟩ := hoff hB2
      exact retC_by hd (.refl _) ⟨rfl, hB3⟩
    rw [if_neg h5] at hw
    by_cases h6 : op = 6
    · subst h6
      rw [if_pos rfl] at hw
      have hQ := atext_ok hT2 (g5 (.inr rfl)) (g6 rfl)
      have hwn : w ≠ [] := by rw [← hw]; simp
      rw [hw] at hQ
      unfold areaAV at hQ
      simp (disch := first | assumption | omega | (simp only [List.length_append, List.length_cons, List.length_nil]; omega)) only [go_sem, reduceCtorEq, Nat.reduceEqDiff, Nat.reduceAdd, Nat.reduceSub, Nat.reduceMul, Nat.reduceLeDiff, Int.reduceLT, Int.reduceLE, Int.reduceEq, ↓reduceIte, Int.reduceNeg, Int.reduceAdd, Int.reduceSub, Int.reduceMul, true_imp_iff, forall_const, Nat.mul_one, Int.reduceToNat, Nat.reducePow, Int.reducePow, Bool.true_and, Bool.false_and, Bool.and_false, hc1]
      refine hQ.mono ?_
      rintro v σ' ⟨rfl, rfl⟩
      simp (disch := first | assumption | omega | (simp only [List.length_append, List.length_cons, List.length_nil]; omega)) only [go_sem, reduceCtorEq, Nat.reduceEqDiff, Nat.reduceAdd, Nat.reduceSub, Nat.reduceMul, Nat.reduceLeDiff, Int.reduceLT, Int.reduceLE, Int.reduceEq, ↓reduceIte, Int.reduceNeg, Int.reduceAdd, Int.reduceSub, Int.reduceMul, true_imp_iff, forall_const, Nat.mul_one, Int.reduceToNat, Nat.reducePow, Int.reducePow, Bool.true_and, Bool.false_and, Bool.and_false]
      refine (writes1_ok hB _ hwn (by omega)).mono ?_
      rintro v σ2 ⟨rfl, hB2⟩
      simp (disch := first | assumption | omega | (simp only [List.length_append, List.length_cons, List.length_nil]; omega)) only [go_sem, reduceCtorEq, Nat.reduceEqDiff, Nat.reduceAdd, Nat.reduceSub, Nat.reduceMul, Nat.reduceLeDiff, Int.reduceLT, Int.reduceLE, Int.reduceEq, ↓reduceIte, Int.reduceNeg, Int.reduceAdd, Int.reduceSub, Int.reduceMul, true_imp_iff, forall_const, Nat.mul_one, Int.reduceToNat, Nat.reducePow, Int.reducePow, Bool.true_and, Bool.false_and, Bool.and_false]
      obtain ⟨σ3, hd, hB3⟩ := hoff hB2
      exact retC_by hd (.refl _) ⟨rfl, hB3⟩
    rw [if_neg h6] at hw
    by_cases h7 : op = 7 ∨ op = 8
    · rw [if_pos h7] at hw
      obtain ⟨x, ks, rfl⟩ : ∃ x ks, kids = x :: ks := by
        cases kids with
        | nil => have := g7 (by omega); simp at this
        | cons x ks => exact ⟨x, ks, rfl⟩
      obtain ⟨i1, i2⟩ := hkid x (by simp)
      have hI := fun l' σ' (hB : BD τ b l' σ') hl' => inside_ok i1 i2 6 hB hb1 hT1 hM1 hl'
      simp only [List.map_cons, List.getD_cons_zero] at hw
      generalize insT 6 x.op x.spell = t at *
      obtain ⟨xo, xm, xs, xa, xb, xk⟩ := x
      simp only [List.map_cons] at hcell hc1 ⊢
      rw [Nd.av_cs] at hI
      simp only [Nd.av_cs] at hcell hc1 ⊢
      generalize ks.map Nd.av = K at *
      rcases h7 with rfl | rfl
      · simp only [if_true] at hw
        subst hw
        simp only [List.length_cons] at hl
        simp (disch := first | assumption | omega | (simp only [List.length_append, List.length_cons, List.length_nil]; omega)) only [go_sem, reduceCtorEq, Nat.reduceEqDiff, Nat.reduceAdd, Nat.reduceSub, Nat.reduceMul, Nat.reduceLeDiff, Int.reduceLT, Int.reduceLE, Int.reduceEq, ↓reduceIte, Int.reduceNeg, Int.reduceAdd, Int.reduceSub, Int.reduceMul, true_imp_iff, forall_const, Nat.mul_one, Int.reduceToNat, Nat.reducePow, Int.reducePow, Bool.true_and, Bool.false_and, Bool.and_false, hc1]
        refine (writeByte_ok hB 45 (by omega)).mono ?_
        rintro v σ2 ⟨rfl, hB2⟩
        have hc2 := hcell hB2
        simp (disch := first | assumption | omega | (simp only [List.length_append, List.length_cons, List.length_nil]; omega)) only [go_sem, reduceCtorEq, Nat.reduceEqDiff, Nat.reduceAdd, Nat.reduceSub, Nat.reduceMul, Nat.reduceLeDiff, Int.reduceLT, Int.reduceLE, Int.reduceEq, ↓reduceIte, Int.reduceNeg, Int.reduceAdd, Int.reduceSub, Int.reduceMul, true_imp_iff, forall_const, Nat.mul_one, Int.reduceToNat, Nat.reducePow, Int.reducePow, Bool.true_and, Bool.false_and, Bool.and_false, hc2]
        refine (hI _ _ hB2 (by simp only [List.length_append, List.length_cons, List.length_nil]; omega)).mono ?_
        rintro v σ3 ⟨rfl, hB3⟩
        simp (disch := first | assumption | omega | (simp only [List.length_append, List.length_cons, List.length_nil]; omega)) only [go_sem, reduceCtorEq, Nat.reduceEqDiff, Nat.reduceAdd, Nat.reduceSub, Nat.reduceMul, Nat.reduceLeDiff, Int.reduceLT, Int.reduceLE, Int.reduceEq, ↓reduceIte, Int.reduceNeg, Int.reduceAdd, Int.reduceSub, Int.reduceMul, true_imp_iff, forall_const, Nat.mul_one, Int.reduceToNat, Nat.reducePow, Int.reducePow, Bool.true_and, Bool.false_and, Bool.and_false]
        obtain ⟨σ4, hd, hB4⟩ := hoff hB3
        refine retC_by hd (.refl _) ⟨rfl, ?_⟩
        have e : l ++ 45 :: t = l ++ [45] ++ t := by simp
        rw [e]; exact hB4
      · rw [if_neg (by decide)] at hw
        subst hw
        simp only [List.length_cons] at hl
        simp (disch := first | assumption | omega | (simp only [List.length_append, List.length_cons, List.length_nil]; omega)) only [go_sem, reduceCtorEq, Nat.reduceEqDiff, Nat.reduceAdd, Nat.reduceSub, Nat.reduceMul, Nat.reduceLeDiff, Int.reduceLT, Int.reduceLE, Int.reduceEq, ↓reduceIte, Int.reduceNeg, Int.reduceAdd, Int.reduceSub, Int.reduceMul, true_imp_iff, forall_const, Nat.mul_one, Int.reduceToNat, Nat.reducePow, Int.reducePow, Bool.true_and, Bool.false_and, Bool.and_false, hc1]
        refine (writeByte_ok hB 43 (by omega)).mono ?_
        rintro v σ2 ⟨rfl, hB2⟩
        have hc2 := hcell hB2
        simp (disch := first | assumption | omega | (simp only [List.length_append, List.length_cons, List.length_nil]; omega)) only [go_sem, reduceCtorEq, Nat.reduceEqDiff, Nat.reduceAdd, Nat.reduceSub, Nat.reduceMul, Nat.reduceLeDiff, Int.reduceLT, Int.reduceLE, Int.reduceEq, ↓reduceIte, Int.reduceNeg, Int.reduceAdd, Int.reduceSub, Int.reduceMul, true_imp_iff, forall_const, Nat.mul_one, Int.reduceToNat, Nat.reducePow, Int.reducePow, Bool.true_and, Bool.false_and, Bool.and_false, hc2]
        refine (hI _ _ hB2 (by simp only [List.length_append, List.length_cons, List.length_nil]; omega)).mono ?_
        rintro v σ3 ⟨rfl, hB3⟩
        simp (disch := first | assumption | omega | (simp only [List.length_append, List.length_cons, List.length_nil]; omega)) only [go_sem, reduceCtorEq, Nat.reduceEqDiff, Nat.reduceAdd, Nat.reduceSub, Nat.reduceMul, Nat.reduceLeDiff, Int.reduceLT, Int.reduceLE, Int.reduceEq, ↓reduceIte, Int.reduceNeg, Int.reduceAdd, Int.reduceSub, Int.reduceMul, true_imp_iff, forall_const, Nat.mul_one, Int.reduceToNat, Nat.reducePow, Int.reducePow, Bool.true_and, Bool.false_and, Bool.and_false]
        obtain ⟨σ4, hd, hB4⟩ := hoff hB3
        refine retC_by hd (.refl _) ⟨rfl, ?_⟩
        have e : l ++ 43 :: t = l ++ [43] ++ t := by simp
        rw [e]; exact hB4
    rw [if_neg h7] at hw
    have h7a : op ≠ 7 := by omega
    have h7b : op ≠ 8 := by omega
    by_cases h9 : op = 9
    · subst h9
      rw [if_pos rfl] at hw
      obtain ⟨x, ks, rfl⟩ : ∃ x ks, kids = x :: ks := by
        cases kids with
        | nil => have := g7 (by omega); simp at this
        | cons x ks => exact ⟨x, ks, rfl⟩
      obtain ⟨i1, i2⟩ := hkid x (by simp)
      have hI := fun l' σ' (hB : BD τ b l' σ') hl' => inside_ok i1 i2 7 hB hb1 hT1 hM1 hl'
      simp only [List.map_cons, List.getD_cons_zero] at hw
      generalize insT 7 x.op x.spell = t at *
      obtain ⟨xo, xm, xs, xa, xb, xk⟩ := x
      rw [Nd.av_cs] at hI
      simp only [List.map_cons, Nd.av_cs] at hcell hc1 ⊢
      generalize ks.map Nd.av = K at *
      subst hw
      simp only [List.length_append, List.length_cons, List.length_nil] at hl
      simp (disch := first | assumption | omega | (simp only [List.length_append, List.length_cons, List.length_nil]; omega)) only [go_sem, reduceCtorEq, Nat.reduceEqDiff, Nat.reduceAdd, Nat.reduceSub, Nat.reduceMul, Nat.reduceLeDiff, Int.reduceLT, Int.reduceLE, Int.reduceEq, ↓reduceIte, Int.reduceNeg, Int.reduceAdd, Int.reduceSub, Int.reduceMul, true_imp_iff, forall_const, Nat.mul_one, Int.reduceToNat, Nat.reducePow, Int.reducePow, Bool.true_and, Bool.false_and, Bool.and_false, hc1]
      refine (hI _ _ hB (by omega)).mono ?_
      rintro v σ2 ⟨rfl, hB2⟩
      simp (disch := first | assumption | omega | (simp only [List.length_append, List.length_cons, List.length_nil]; omega)) only [go_sem, reduceCtorEq, Nat.reduceEqDiff, Nat.reduceAdd, Nat.reduceSub, Nat.reduceMul, Nat.reduceLeDiff, Int.reduceLT, Int.reduceLE, Int.reduceEq, ↓reduceIte, Int.reduceNeg, Int.reduceAdd, Int.reduceSub, Int.reduceMul, true_imp_iff, forall_const, Nat.mul_one, Int.reduceToNat, Nat.reducePow, Int.reducePow, Bool.true_and, Bool.false_and, Bool.and_false]
      refine (writeByte_ok hB2 37 (by simp only [List.length_append]; omega)).mono ?_
      rintro v σ3 ⟨rfl, hB3⟩
      simp (disch := first | assumption | omega | (simp only [List.length_append, List.length_cons, List.length_nil]; omega)) only [go_sem, reduceCtorEq, Nat.reduceEqDiff, Nat.reduceAdd, Nat.reduceSub, Nat.reduceMul, Nat.reduceLeDiff, Int.reduceLT, Int.reduceLE, Int.reduceEq, ↓reduceIte, Int.reduceNeg, Int.reduceAdd, Int.reduceSub, Int.reduceMul, true_imp_iff, forall_const, Nat.mul_one, Int.reduceToNat, Nat.reducePow, Int.reducePow, Bool.true_and, Bool.false_and, Bool.and_false]
      obtain ⟨σ4, hd, hB4⟩ := hoff hB3
      refine retC_by hd (.refl _) ⟨rfl, ?_⟩
      rw [← List.append_assoc]; exact hB4
    rw [if_neg h9] at hw
    by_cases h22 : op = 22
    · subst h22
      rw [if_pos rfl] at hw
      have hsn := gc rfl
      have hjt := joinC_take_le (kids.map fun x => (x.op, x.spell))
      have hspl : ∀ (i : Nat) (x : Nd), kids[i]? = some x → (kids.map fun x => (x.op, x.spell)).take (i + 1) = (kids.map fun x => (x.op, x.spell)).take i ++ [(x.op, x.spell)] := by
        intro i x hx
        have hlt : i < kids.length := (List.getElem?_eq_some_iff.1 hx).1
        rw [List.take_add_one, List.getElem?_map, hx]
        rfl
      have hspn : ∀ i, 0 < i → i < kids.length → (kids.map fun x => (x.op, x.spell)).take i ≠ [] := by
        intro i h0 h1 e
        have := congrArg List.length e
        rw [List.length_take, List.length_map, List.length_nil] at this
        omega
      have hspa : (kids.map fun x => (x.op, x.spell)).take kids.length = kids.map fun x => (x.op, x.spell) := List.take_of_length_le (by simp)
      have hspz : joinC ((kids.map fun x => (x.op, x.spell)).take 0) = [] := rfl
      generalize (kids.map fun x => (x.op, x.spell)) = sp at *
      subst hw
      simp only [List.length_append, List.length_cons, List.length_nil] at hl
      simp (disch := first | assumption | omega | (simp only [List.length_append, List.length_cons, List.length_nil]; omega)) only [go_sem, reduceCtorEq, Nat.reduceEqDiff, Nat.reduceAdd, Nat.reduceSub, Nat.reduceMul, Nat.reduceLeDiff, Int.reduceLT, Int.reduceLE, Int.reduceEq, ↓reduceIte, Int.reduceNeg, Int.reduceAdd, Int.reduceSub, Int.reduceMul, true_imp_iff, forall_const, Nat.mul_one, Int.reduceToNat, Nat.reducePow, Int.reducePow, Bool.true_and, Bool.false_and, Bool.and_false, hc1]
      refine (writes1_ok hB _ hsn (by omega)).mono ?_
      rintro v σ2 ⟨rfl, hB2⟩
      simp (disch := first | assumption | omega | (simp only [List.length_append, List.length_cons, List.length_nil]; omega)) only [go_sem, reduceCtorEq, Nat.reduceEqDiff, Nat.reduceAdd, Nat.reduceSub, Nat.reduceMul, Nat.reduceLeDiff, Int.reduceLT, Int.reduceLE, Int.reduceEq, ↓reduceIte, Int.reduceNeg, Int.reduceAdd, Int.reduceSub, Int.reduceMul, true_imp_iff, forall_const, Nat.mul_one, Int.reduceToNat, Nat.reducePow, Int.reducePow, Bool.true_and, Bool.false_and, Bool.and_false]
      refine (writeByte_ok hB2 40 (by simp only [List.length_append]; omega)).mono ?_
      rintro v σ3 ⟨rfl, hB3⟩
      have hc3 := hcell hB3
      obtain ⟨G, hG⟩ : ∃ G, G = ACode.wp Tryz.prog c32_47 := ⟨_, rfl⟩
      simp (disch := first | assumption | omega | (simp only [List.length_append, List.length_cons, List.length_nil]; omega)) only [go_sem, reduceCtorEq, Nat.reduceEqDiff, Nat.reduceAdd, Nat.reduceSub, Nat.reduceMul, Nat.reduceLeDiff, Int.reduceLT, Int.reduceLE, Int.reduceEq, ↓reduceIte, Int.reduceNeg, Int.reduceAdd, Int.reduceSub, Int.reduceMul, true_imp_iff, forall_const, Nat.mul_one, Int.reduceToNat, Nat.reducePow, Int.reducePow, Bool.true_and, Bool.false_and, Bool.and_false, hc3, ←hG]
      refine wp_loop_by (fun (i : Nat) a1 s2 => i ≤ kids.length ∧ (a1 0 = .ptr b 0 ∧ a1 114 = .sl .shr (kids.map Nd.av) ∧ a1 115 = .int .i64 kids.length ∧ a1 116 = .int .i64 i) ∧ BD τ b (l ++ s ++ [40] ++ joinC (sp.take i)) s2) (fun i => kids.length - i) 0 (Dr.now ⟨Nat.zero_le _, ?_, ?_⟩) ?_
      · simp (disch := first | assumption | omega | (simp only [List.length_append, List.length_cons, List.length_nil]; omega)) only [go_sem, reduceCtorEq, Nat.reduceEqDiff, Nat.reduceAdd, Nat.reduceSub, Nat.reduceMul, Nat.reduceLeDiff, Int.reduceLT, Int.reduceLE, Int.reduceEq, ↓reduceIte, Int.reduceNeg, Int.reduceAdd, Int.reduceSub, Int.reduceMul, true_imp_iff, forall_const, Nat.mul_one, Int.reduceToNat, Nat.reducePow, Int.reducePow, Bool.true_and, Bool.false_and, Bool.and_false]
      · rw [hspz, List.append_nil]; exact hB3
      rintro i a1 s2 ⟨hi, hf, hBi⟩
      have hji := hjt i
      by_cases hlt : i < kids.length
      · have hlt' : (i : Int) < kids.length := by omega
        have hx : kids[i]? = some (kids[i]'hlt) := List.getElem?_eq_getElem hlt
        obtain ⟨x, hxe⟩ : ∃ x, kids[i]'hlt = x := ⟨_, rfl⟩
        rw [hxe] at hx
        have hmx := Nd.get hx
        have hspx := hspl i x hx
        have hjs := hjt (i + 1)
        obtain ⟨i1, i2⟩ := hkid x (List.mem_of_getElem? hx)
        obtain ⟨xo, xm, xs, xa, xb, xk⟩ := x
        rw [Nd.av_cs] at hmx
        have i1' : ∀ (σ0 σ : ASt) (b : Nat) (l : List UInt8), BD σ0 b l σ → σ0 b = none → Tab σ0 → MaxL σ0 → l.length + (Nd.mk xo xm xs xa xb xk).spell.length ≤ 900000 →
            ACalls Tryz.prog 32 [.ptr b 0, .agg (Nd.cs xo xm xs xa xb (xk.map Nd.av))] σ fun v σ' => v = .tuple [] ∧ BD σ0 b (l ++ (Nd.mk xo xm xs xa xb xk).spell) σ' := by rw [← Nd.av_cs]; exact i1
        generalize hxw : (Nd.mk xo xm xs xa xb xk).spell = xw at *
        generalize xk.map Nd.av = K at *
        generalize kids.map Nd.av = L at *
        simp (disch := first | assumption | omega | (simp only [List.length_append, List.length_cons, List.length_nil]; omega)) only [go_sem, reduceCtorEq, Nat.reduceEqDiff, Nat.reduceAdd, Nat.reduceSub, Nat.reduceMul, Nat.reduceLeDiff, Int.reduceLT, Int.reduceLE, Int.reduceEq, ↓reduceIte, Int.reduceNeg, Int.reduceAdd, Int.reduceSub, Int.reduceMul, true_imp_iff, forall_const, Nat.mul_one, Int.reduceToNat, Nat.reducePow, Int.reducePow, Bool.true_and, Bool.false_and, Bool.and_false, hf, hlt', hmx, ←hG]
        refine allocC_by fun e he => ?_
        obtain ⟨hBe, heb, he0⟩ := hBi.add he (r := .obj (Nd.cs xo xm xs xa xb K))
        have hbe : (τ.set e (some (.obj (Nd.cs xo xm xs xa xb K)))) b = none := by rw [ASt.set_ne (Ne.symm heb)]; exact hb1
        have hTe := hT1.set he0 (r := some (.obj (Nd.cs xo xm xs xa xb K)))
        have hMe := hM1.set he0 (r := some (.obj (Nd.cs xo xm xs xa xb K)))
        have hcelle : ∀ {l' : List UInt8} {σ1 : ASt}, BD (τ.set e (some (.obj (Nd.cs xo xm xs xa xb K)))) b l' σ1 → σ1 e = some (.obj (Nd.cs xo xm xs xa xb K)) := fun h => h.at heb (ASt.set_same _ _ _)
        have hoffe : ∀ {l' : List UInt8} {σ1 : ASt}, BD (τ.set e (some (.obj (Nd.cs xo xm xs xa xb K)))) b l' σ1 → ∃ σ', Drop σ1 σ' ∧ BD τ b l' σ' := fun h => h.off heb he0
        have hce := hcelle hBe
        by_cases h0 : i = 0
        · subst h0
          have hz : ((0 : Nat) : Int) = 0 := rfl
          have hj1 : joinC (sp.take (0 + 1)) = xw := by rw [hspx]; simp [joinC]
          rw [hj1] at hjs
          rw [hspz, List.append_nil] at hBe
          simp (disch := first | assumption | omega | (simp only [List.length_append, List.length_cons, List.length_nil]; omega)) only [go_sem, reduceCtorEq, Nat.reduceEqDiff, Nat.reduceAdd, Nat.reduceSub, Nat.reduceMul, Nat.reduceLeDiff, Int.reduceLT, Int.reduceLE, Int.reduceEq, ↓reduceIte, Int.reduceNeg, Int.reduceAdd, Int.reduceSub, Int.reduceMul, true_imp_iff, forall_const, Nat.mul_one, Int.reduceToNat, Nat.reducePow, Int.reducePow, Bool.true_and, Bool.false_and, Bool.and_false, hf, hz, ASt.set_set, hce, ←hG]
          refine (i1' _ _ _ _ hBe hbe hTe hMe (by simp only [List.length_append, List.length_cons, List.length_nil]; omega)).mono ?_
          rintro v σ4 ⟨rfl, hB4⟩
          simp (disch := first | assumption | omega | (simp only [List.length_append, List.length_cons, List.length_nil]; omega)) only [go_sem, reduceCtorEq, Nat.reduceEqDiff, Nat.reduceAdd, Nat.reduceSub, Nat.reduceMul, Nat.reduceLeDiff, Int.reduceLT, Int.reduceLE, Int.reduceEq, ↓reduceIte, Int.reduceNeg, Int.reduceAdd, Int.reduceSub, Int.reduceMul, true_imp_iff, forall_const, Nat.mul_one, Int.reduceToNat, Nat.reducePow, Int.reducePow, Bool.true_and, Bool.false_and, Bool.and_false, hf, ←hG]
          obtain ⟨σ5, hd, hB5⟩ := hoffe hB4
          refine ⟨0 + 1, by dsimp only; omega, Dr.drop hd ⟨by omega, ?_, ?_⟩⟩
          · simp (disch := first | assumption | omega | (simp only [List.length_append, List.length_cons, List.length_nil]; omega)) only [go_sem, reduceCtorEq, Nat.reduceEqDiff, Nat.reduceAdd, Nat.reduceSub, Nat.reduceMul, Nat.reduceLeDiff, Int.reduceLT, Int.reduceLE, Int.reduceEq, ↓reduceIte, Int.reduceNeg, Int.reduceAdd, Int.reduceSub, Int.reduceMul, true_imp_iff, forall_const, Nat.mul_one, Int.reduceToNat, Nat.reducePow, Int.reducePow, Bool.true_and, Bool.false_and, Bool.and_false, hf]
          · rw [hj1]; exact hB5
        · have h0' : (0 : Int) < i := by omega
          have hj1 : joinC (sp.take (i + 1)) = joinC (sp.take i) ++ 44 :: xw := by rw [hspx, joinC_snoc _ _ (hspn i (by omega) hlt)]
          rw [hj1] at hjs
          simp only [List.length_append, List.length_cons] at hjs
          simp (disch := first | assumption | omega | (simp only [List.length_append, List.length_cons, List.length_nil]; omega)) only [go_sem, reduceCtorEq, Nat.reduceEqDiff, Nat.reduceAdd, Nat.reduceSub, Nat.reduceMul, Nat.reduceLeDiff, Int.reduceLT, Int.reduceLE, Int.reduceEq, ↓reduceIte, Int.reduceNeg, Int.reduceAdd, Int.reduceSub, Int.reduceMul, true_imp_iff, forall_const, Nat.mul_one, Int.reduceToNat, Nat.reducePow, Int.reducePow, Bool.true_and, Bool.false_and, Bool.and_false, hf, h0', ASt.set_set, hce, ←hG]
          refine (writeByte_ok hBe 44 (by simp only [List.length_append, List.length_cons, List.length_nil]; omega)).mono ?_
          rintro v σ4 ⟨rfl, hB4⟩
          have hc4 := hcelle hB4
          simp (disch := first | assumption | omega | (simp only [List.length_append, List.length_cons, List.length_nil]; omega)) only [go_sem, reduceCtorEq, Nat.reduceEqDiff, Nat.reduceAdd, Nat.reduceSub, Nat.reduceMul, Nat.reduceLeDiff, Int.reduceLT, Int.reduceLE, Int.reduceEq, ↓reduceIte, Int.reduceNeg, Int.reduceAdd, Int.reduceSub, Int.reduceMul, true_imp_iff, forall_const, Nat.mul_one, Int.reduceToNat, Nat.reducePow, Int.reducePow, Bool.true_and, Bool.false_and, Bool.and_false, hf, hc4, ←hG]
          refine (i1' _ _ _ _ hB4 hbe hTe hMe (by simp only [List.length_append, List.length_cons, List.length_nil]; omega)).mono ?_
          rintro v σ5 ⟨rfl, hB5⟩
          simp (disch := first | assumption | omega | (simp only [List.length_append, List.length_cons, List.length_nil]; omega)) only [go_sem, reduceCtorEq, Nat.reduceEqDiff, Nat.reduceAdd, Nat.reduceSub, Nat.reduceMul, Nat.reduceLeDiff, Int.reduceLT, Int.reduceLE, Int.reduceEq, ↓reduceIte, Int.reduceNeg, Int.reduceAdd, Int.reduceSub, Int.reduceMul, true_imp_iff, forall_const, Nat.mul_one, Int.reduceToNat, Nat.reducePow, Int.reducePow, Bool.true_and, Bool.false_and, Bool.and_false, hf, ←hG]
          obtain ⟨σ6, hd, hB6⟩ := hoffe hB5
          refine ⟨i + 1, by dsimp only; omega, Dr.drop hd ⟨by omega, ?_, ?_⟩⟩
          · simp (disch := first | assumption | omega | (simp only [List.length_append, List.length_cons, List.length_nil]; omega)) only [go_sem, reduceCtorEq, Nat.reduceEqDiff, Nat.reduceAdd, Nat.reduceSub, Nat.reduceMul, Nat.reduceLeDiff, Int.reduceLT, Int.reduceLE, Int.reduceEq, ↓reduceIte, Int.reduceNeg, Int.reduceAdd, Int.reduceSub, Int.reduceMul, true_imp_iff, forall_const, Nat.mul_one, Int.reduceToNat, Nat.reducePow, Int.reducePow, Bool.true_and, Bool.false_and, Bool.and_false, hf]
          · have e2 : l ++ s ++ [40] ++ joinC (sp.take (i + 1)) = l ++ s ++ [40] ++ joinC (sp.take i) ++ [44] ++ xw := by rw [hj1]; simp
            rw [e2]; exact hB6
      · have hlt' : ¬ (i : Int) < kids.length := by omega
        have hie : i = kids.length := by omega
        rw [hie, hspa] at hBi
        simp (disch := first | assumption | omega | (simp only [List.length_append, List.length_cons, List.length_nil]; omega)) only [go_sem, reduceCtorEq, Nat.reduceEqDiff, Nat.reduceAdd, Nat.reduceSub, Nat.reduceMul, Nat.reduceLeDiff, Int.reduceLT, Int.reduceLE, Int.reduceEq, ↓reduceIte, Int.reduceNeg, Int.reduceAdd, Int.reduceSub, Int.reduceMul, true_imp_iff, forall_const, Nat.mul_one, Int.reduceToNat, Nat.reducePow, Int.reducePow, Bool.true_and, Bool.false_and, Bool.and_false, hf, hlt', ←hG]
        rw [hG]
        simp (disch := first | assumption | omega | (simp only [List.length_append, List.length_cons, List.length_nil]; omega)) only [go_sem, reduceCtorEq, Nat.reduceEqDiff, Nat.reduceAdd, Nat.reduceSub, Nat.reduceMul, Nat.reduceLeDiff, Int.reduceLT, Int.reduceLE, Int.reduceEq, ↓reduceIte, Int.reduceNeg, Int.reduceAdd, Int.reduceSub, Int.reduceMul, true_imp_iff, forall_const, Nat.mul_one, Int.reduceToNat, Nat.reducePow, Int.reducePow, Bool.true_and, Bool.false_and, Bool.and_false, hf]
        refine (writeByte_ok hBi 41 (by simp only [List.length_append, List.length_cons, List.length_nil]; omega)).mono ?_
        rintro v σ4 ⟨rfl, hB4⟩
        simp (disch := first | assumption | omega | (simp only [List.length_append, List.length_cons, List.length_nil]; omega)) only [go_sem, reduceCtorEq, Nat.reduceEqDiff, Nat.reduceAdd, Nat.reduceSub, Nat.reduceMul, Nat.reduceLeDiff, Int.reduceLT, Int.reduceLE, Int.reduceEq, ↓reduceIte, Int.reduceNeg, Int.reduceAdd, Int.reduceSub, Int.reduceMul, true_imp_iff, forall_const, Nat.mul_one, Int.reduceToNat, Nat.reducePow, Int.reducePow, Bool.true_and, Bool.false_and, Bool.and_false]
        obtain ⟨σ5, hd, hB5⟩ := hoff hB4
        refine retC_by hd (.refl _) ⟨rfl, ?_⟩
        have e2 : l ++ (s ++ 40 :: (joinC sp ++ [41])) = l ++ s ++ [40] ++ joinC sp ++ [41] := by simp
        first
          | (rw [e2]; exact hB5)
          | (have e3 : l ++ (s ++ 40 :: joinC sp ++ [41]) = l ++ s ++ [40] ++ joinC sp ++ [41] := by simp
             rw [e3]; exact hB5)
    rw [if_neg h22] at hw
    by_cases h23 : op = 23
    · subst h23
      rw [if_pos rfl] at hw
      subst hw
      simp (disch := first | assumption | omega | (simp only [List.length_append, List.length_cons, List.length_nil]; omega)) only [go_sem, reduceCtorEq, Nat.reduceEqDiff, Nat.reduceAdd, Nat.reduceSub, Nat.reduceMul, Nat.reduceLeDiff, Int.reduceLT, Int.reduceLE, Int.reduceEq, ↓reduceIte, Int.reduceNeg, Int.reduceAdd, Int.reduceSub, Int.reduceMul, true_imp_iff, forall_const, Nat.mul_one, Int.reduceToNat, Nat.reducePow, Int.reducePow, Bool.true_and, Bool.false_and, Bool.and_false, hc1]
      obtain ⟨σ3, hd, hB3⟩ := hoff hB
      exact retC_by hd (.refl _) ⟨rfl, hB3⟩
    rw [if_neg h23] at hw
    obtain ⟨x, y, ks, rfl⟩ : ∃ x y ks, kids = x :: y :: ks := by
      have := gb (by omega)
      match kids, this with
      | x :: y :: ks, _ => exact ⟨x, y, ks, rfl⟩
    obtain ⟨i1, i2⟩ := hkid x (by simp)
    obtain ⟨j1, j2⟩ := hkid y (by simp)
    have hI := fun l' σ' (hB : BD τ b l' σ') hl' => inside_ok i1 i2 (levelP op) hB hb1 hT1 hM1 hl'
    have hJ := fun l' σ' (hB : BD τ b l' σ') hl' => inside_ok j1 j2 (levelP op + 1) hB hb1 hT1 hM1 hl'
    have hLv := level_ok op (by omega) (by omega)
    have hlb : 0 ≤ levelP op ∧ levelP op ≤ 8 := by unfold levelP; repeat' split
                                                   all_goals omega
    simp only [List.map_cons, List.getD_cons_zero, List.getD_cons_succ] at hw
    generalize insT (levelP op) x.op x.spell = t at *
    generalize insT (levelP op + 1) y.op y.spell = u at *
    generalize levelP op = lv at *
    obtain ⟨xo, xm, xs, xa, xb, xk⟩ := x
    obtain ⟨yo, ym, ys, ya, yb, yk⟩ := y
    rw [Nd.av_cs] at hI hJ
    simp only [List.map_cons, Nd.av_cs] at hcell hc1 ⊢
    generalize ks.map Nd.av = K at *
    obtain ⟨j, hj⟩ : ∃ j : Nat, op = j + 10 := ⟨(op - 10).toNat, by omega⟩
    have hj2 : (op - 10).toNat = j := by omega
    have hj3 : op - 10 = (j : Int) := by omega
    rw [hj2] at hw
    have hjl : j < 12 := by omega
    obtain ⟨sg, hsg⟩ : ∃ sg, signL[j]? = some sg := ⟨signL[j]'(by simp [signL]; omega), List.getElem?_eq_getElem _⟩
    have hsg2 : signL.getD j [] = sg := by rw [List.getD_eq_getElem?_getD, hsg]; rfl
    have hsl := sign_len j
    have hsn : sg ≠ [] := by
      have : ∀ j < 12, signL.getD j [] ≠ [] := by decide
      rw [← hsg2]; exact this j hjl
    rw [hsg2] at hw hsl
    have hmg : (signL.map AV.str)[j]? = some (.str sg) := by rw [List.getElem?_map, hsg]; rfl
    have hSg := esigns_ok
    generalize signL.map AV.str = SL at *
    subst hw
    simp only [List.length_append] at hl
    simp (disch := first | assumption | omega | (simp only [List.length_append, List.length_cons, List.length_nil]; omega)) only [go_sem, reduceCtorEq, Nat.reduceEqDiff, Nat.reduceAdd, Nat.reduceSub, Nat.reduceMul, Nat.reduceLeDiff, Int.reduceLT, Int.reduceLE, Int.reduceEq, ↓reduceIte, Int.reduceNeg, Int.reduceAdd, Int.reduceSub, Int.reduceMul, true_imp_iff, forall_const, Nat.mul_one, Int.reduceToNat, Nat.reducePow, Int.reducePow, Bool.true_and, Bool.false_and, Bool.and_false, hc1, h1, h2, h3, h4, h5, h6, h7a, h7b, h9, h22, h23]
    refine hLv.use ?_
    simp (disch := first | assumption | omega | (simp only [List.length_append, List.length_cons, List.length_nil]; omega)) only [go_sem, reduceCtorEq, Nat.reduceEqDiff, Nat.reduceAdd, Nat.reduceSub, Nat.reduceMul, Nat.reduceLeDiff, Int.reduceLT, Int.reduceLE, Int.reduceEq, ↓reduceIte, Int.reduceNeg, Int.reduceAdd, Int.reduceSub, Int.reduceMul, true_imp_iff, forall_const, Nat.mul_one, Int.reduceToNat, Nat.reducePow, Int.reducePow, Bool.true_and, Bool.false_and, Bool.and_false, hc1]
    refine (hI _ _ hB (by omega)).mono ?_
    rintro v σ2 ⟨rfl, hB2⟩
    have hc2 := hcell hB2
    simp (disch := first | assumption | omega | (simp only [List.length_append, List.length_cons, List.length_nil]; omega)) only [go_sem, reduceCtorEq, Nat.reduceEqDiff, Nat.reduceAdd, Nat.reduceSub, Nat.reduceMul, Nat.reduceLeDiff, Int.reduceLT, Int.reduceLE, Int.reduceEq, ↓reduceIte, Int.reduceNeg, Int.reduceAdd, Int.reduceSub, Int.reduceMul, true_imp_iff, forall_const, Nat.mul_one, Int.reduceToNat, Nat.reducePow, Int.reducePow, Bool.true_and, Bool.false_and, Bool.and_false, hc2]
    refine hSg.use ?_
    simp (disch := first | assumption | omega | (simp only [List.length_append, List.length_cons, List.length_nil]; omega)) only [go_sem, reduceCtorEq, Nat.reduceEqDiff, Nat.reduceAdd, Nat.reduceSub, Nat.reduceMul, Nat.reduceLeDiff, Int.reduceLT, Int.reduceLE, Int.reduceEq, ↓reduceIte, Int.reduceNeg, Int.reduceAdd, Int.reduceSub, Int.reduceMul, true_imp_iff, forall_const, Nat.mul_one, Int.reduceToNat, Nat.reducePow, Int.reducePow, Bool.true_and, Bool.false_and, Bool.and_false, hc2, hj3, hmg]
    refine (writes1_ok hB2 _ hsn (by simp only [List.length_append]; omega)).mono ?_
    rintro v σ3 ⟨rfl, hB3⟩
    have hc3 := hcell hB3
    simp (disch := first | assumption | omega | (simp only [List.length_append, List.length_cons, List.length_nil]; omega)) only [go_sem, reduceCtorEq, Nat.reduceEqDiff, Nat.reduceAdd, Nat.reduceSub, Nat.reduceMul, Nat.reduceLeDiff, Int.reduceLT, Int.reduceLE, Int.reduceEq, ↓reduceIte, Int.reduceNeg, Int.reduceAdd, Int.reduceSub, Int.reduceMul, true_imp_iff, forall_const, Nat.mul_one, Int.reduceToNat, Nat.reducePow, Int.reducePow, Bool.true_and, Bool.false_and, Bool.and_false, hc3]
    refine (hJ _ _ hB3 (by simp only [List.length_append]; omega)).mono ?_
    rintro v σ4 ⟨rfl, hB4⟩
    simp (disch := first | assumption | omega | (simp only [List.length_append, List.length_cons, List.length_nil]; omega)) only [go_sem, reduceCtorEq, Nat.reduceEqDiff, Nat.reduceAdd, Nat.reduceSub, Nat.reduceMul, Nat.reduceLeDiff, Int.reduceLT, Int.reduceLE, Int.reduceEq, ↓reduceIte, Int.reduceNeg, Int.reduceAdd, Int.reduceSub, Int.reduceMul, true_imp_iff, forall_const, Nat.mul_one, Int.reduceToNat, Nat.reducePow, Int.reducePow, Bool.true_and, Bool.false_and, Bool.and_false]
    obtain ⟨σ5, hd, hB5⟩ := hoff hB4
    refine retC_by hd (.refl _) ⟨rfl, ?_⟩
    have e : l ++ (t ++ (sg ++ u)) = l ++ t ++ sg ++ u := by simp
    first
      | (rw [e]; exact hB5)
      | (rw [← List.append_assoc, ← List.append_assoc]; exact hB5)
end Go.A
namespace Go.A
open Go.Proofs
/-! 8: tabular/tabularlaw12.awake -/
def c8_0 : ACode := .ops [
    ⟨(some 0), none, .q (.mv (.v (.bool false))), []⟩]
def c8_1 : ACode := .ops [
    ⟨(some 6), none, .q (.build [(.int .i64 0), (.int .i64 0), (.str []), (.int .i64 0), (.int .i64 0), (.bool false), (.bool false), (.int .i64 0), (.int .i64 0), (.bool false), (.bool false), (.sl .full [])] [(0, 1, (.v (.int .i64 1))), (1, 1, (.v (.int .i64 10000)))]), []⟩,
    ⟨(some 1), none, .e (.alloc [(.int .i64 0), (.int .i64 0), (.str []), (.int .i64 0), (.int .i64 0), (.bool false), (.bool false), (.int .i64 0), (.int .i64 0), (.bool false), (.bool false), (.sl .full [])]), []⟩,
    ⟨none, none, .e (.store 12 (.t 1) (.t 6)), []⟩]
def c8_2 : ACode := .ops [
    ⟨(some 7), none, .q (.build [(.int .i64 0), (.int .i64 0), (.str []), (.int .i64 0), (.int .i64 0), (.bool false), (.bool false), (.int .i64 0), (.int .i64 0), (.bool false), (.bool false), (.sl .full [])] [(0, 1, (.v (.int .i64 1))), (1, 1, (.v (.int .i64 20000)))]), []⟩,
    ⟨(some 2), none, .e (.alloc [(.int .i64 0), (.int .i64 0), (.str []), (.int .i64 0), (.int .i64 0), (.bool false), (.bool false), (.int .i64 0), (.int .i64 0), (.bool false), (.bool false), (.sl .full [])]), []⟩,
    ⟨none, none, .e (.store 12 (.t 2) (.t 7)), []⟩]
def c8_3 : ACode := .ops [
    ⟨(some 8), none, .q (.ld (some 12) (.t 1)), []⟩,
    ⟨(some 9), none, .q (.ld (some 12) (.t 2)), []⟩,
    ⟨(some 10), none, .q (.bsl 12 [(.t 8), (.t 9)]), []⟩,
    ⟨(some 11), none, .q (.build [(.int .i64 0), (.int .i64 0), (.str []), (.int .i64 0), (.int .i64 0), (.bool false), (.bool false), (.int .i64 0), (.int .i64 0), (.bool false), (.bool false), (.sl .full [])] [(0, 1, (.v (.int .i64 11))), (11, 1, (.t 10))]), []⟩,
    ⟨(some 3), none, .e (.alloc [(.int .i64 0), (.int .i64 0), (.str []), (.int .i64 0), (.int .i64 0), (.bool false), (.bool false), (.int .i64 0), (.int .i64 0), (.bool false), (.bool false), (.sl .full [])]), []⟩,
    ⟨none, none, .e (.store 12 (.t 3) (.t 11)), []⟩]
def c8_4 : ACode := .ops [
    ⟨(some 12), none, .q (.ld (some 12) (.t 3)), []⟩,
    ⟨(some 13), none, .q (.ld (some 12) (.t 1)), []⟩,
    ⟨(some 14), none, .q (.bsl 12 [(.t 12), (.t 13)]), []⟩,
    ⟨(some 15), none, .q (.build [(.int .i64 0), (.int .i64 0), (.str []), (.int .i64 0), (.int .i64 0), (.bool false), (.bool false), (.int .i64 0), (.int .i64 0), (.bool false), (.bool false), (.sl .full [])] [(0, 1, (.v (.int .i64 11))), (11, 1, (.t 14))]), []⟩,
    ⟨(some 4), none, .e (.alloc [(.int .i64 0), (.int .i64 0), (.str []), (.int .i64 0), (.int .i64 0), (.bool false), (.bool false), (.int .i64 0), (.int .i64 0), (.bool false), (.bool false), (.sl .full [])]), []⟩,
    ⟨none, none, .e (.store 12 (.t 4) (.t 15)), []⟩]
def c8_5 : ACode := .ops [
    ⟨(some 16), none, .q (.ld (some 12) (.t 1)), []⟩,
    ⟨(some 17), none, .q (.ld (some 12) (.t 3)), []⟩,
    ⟨(some 18), none, .q (.bsl 12 [(.t 16), (.t 17)]), []⟩,
    ⟨(some 19), none, .q (.build [(.int .i64 0), (.int .i64 0), (.str []), (.int .i64 0), (.int .i64 0), (.bool false), (.bool false), (.int .i64 0), (.int .i64 0), (.bool false), (.bool false), (.sl .full [])] [(0, 1, (.v (.int .i64 11))), (11, 1, (.t 18))]), []⟩,
    ⟨(some 5), none, .e (.alloc [(.int .i64 0), (.int .i64 0), (.str []), (.int .i64 0), (.int .i64 0), (.bool false), (.bool false), (.int .i64 0), (.int .i64 0), (.bool false), (.bool false), (.sl .full [])]), []⟩,
    ⟨none, none, .e (.store 12 (.t 5) (.t 19)), []⟩]
def c8_6 : ACode := .ops [
    ⟨(some 20), none, .q (.ld (some 12) (.t 4)), []⟩,
    ⟨(some 21), none, .e (.call 9 [(.t 20)]), []⟩,
    ⟨(some 22), none, .q (.bin .eql (.t 21) (.v (.str [49, 45, 50, 45, 49]))), []⟩,
    ⟨(some 23), none, .q (.mv (.t 22)), []⟩,
    ⟨(some 24), (some (23, true)), .q (.ld (some 12) (.t 5)), []⟩,
    ⟨(some 25), (some (23, true)), .e (.call 9 [(.t 24)]), []⟩,
    ⟨(some 26), (some (23, true)), .q (.bin .eql (.t 25) (.v (.str [49, 45, 40, 49, 45, 50, 41]))), []⟩,
    ⟨(some 27), none, .q (.pick (.t 23) (.t 26) (.v (.bool false))), []⟩,
    ⟨(some 28), none, .q (.mv (.t 27)), []⟩,
    ⟨(some 29), (some (28, true)), .q (.ld (some 12) (.t 4)), []⟩,
    ⟨(some 30), (some (28, true)), .e (.call 13 [(.t 29)]), []⟩,
    ⟨(some 31), (some (28, true)), .q (.bin .eql (.t 30) (.v (.int .i64 5))), []⟩,
    ⟨(some 32), none, .q (.pick (.t 28) (.t 31) (.v (.bool false))), []⟩,
    ⟨(some 33), none, .q (.mv (.t 32)), []⟩,
    ⟨(some 34), (some (33, true)), .q (.ld (some 12) (.t 4)), []⟩,
    ⟨(some 35), (some (33, true)), .e (.call 15 [(.t 34)]), []⟩,
    ⟨(some 36), (some (33, true)), .q (.bin .eql (.t 35) (.v (.int .i64 3))), []⟩,
    ⟨(some 37), none, .q (.pick (.t 33) (.t 36) (.v (.bool false))), []⟩,
    ⟨(some 0), none, .q (.mv (.t 37)), []⟩]
def c8_7 : ACode := .seq c8_6 .ret
def c8_8 : ACode := .seq c8_5 c8_7
def c8_9 : ACode := .seq c8_4 c8_8
def c8_10 : ACode := .seq c8_3 c8_9
def c8_11 : ACode := .seq c8_2 c8_10
def c8_12 : ACode := .seq c8_1 c8_11
def c8_13 : ACode := .seq c8_0 c8_12
@[go_sem] theorem c8_0_wp : type_of% (wp_of c8_0.eq_1) := wp_of c8_0.eq_1
@[go_sem] theorem c8_1_wp : type_of% (wp_of c8_1.eq_1) := wp_of c8_1.eq_1
@[go_sem] theorem c8_2_wp : type_of% (wp_of c8_2.eq_1) := wp_of c8_2.eq_1
@[go_sem] theorem c8_3_wp : type_of% (wp_of c8_3.eq_1) := wp_of c8_3.eq_1
@[go_sem] theorem c8_4_wp : type_of% (wp_of c8_4.eq_1) := wp_of c8_4.eq_1
@[go_sem] theorem c8_5_wp : type_of% (wp_of c8_5.eq_1) := wp_of c8_5.eq_1
@[go_sem] theorem c8_6_wp : type_of% (wp_of c8_6.eq_1) := wp_of c8_6.eq_1
@[go_sem] theorem c8_7_wp : type_of% (wp_of c8_7.eq_1) := wp_of c8_7.eq_1
@[go_sem] theorem c8_8_wp : type_of% (wp_of c8_8.eq_1) := wp_of c8_8.eq_1
@[go_sem] theorem c8_9_wp : type_of% (wp_of c8_9.eq_1) := wp_of c8_9.eq_1
@[go_sem] theorem c8_10_wp : type_of% (wp_of c8_10.eq_1) := wp_of c8_10.eq_1
@[go_sem] theorem c8_11_wp : type_of% (wp_of c8_11.eq_1) := wp_of c8_11.eq_1
@[go_sem] theorem c8_12_wp : type_of% (wp_of c8_12.eq_1) := wp_of c8_12.eq_1
@[go_sem] theorem c8_13_wp : type_of% (wp_of c8_13.eq_1) := wp_of c8_13.eq_1
def c8 : AFn := ⟨38, [.t 0], c8_13⟩
set_option maxRecDepth 100000 in
theorem c8_ok : compF Tryz.prog Tryz.f8 = some c8 := by kernel_rfl
theorem a8 {args : List AV} {σ : ASt} {R : AV → ASt → Prop} (hl : args.length ≤ 38) (h : c8_13.wp Tryz.prog (RetQ [.t 0] R) (init args) σ) : ACalls Tryz.prog 8 args σ R := acalls_of Tryz.func8 c8_ok hl h
/-! 9: tabular/expr.Print -/
def c9_0 : ACode := .ops [
    ⟨(some 1), none, .e (.box (.t 0)), []⟩,
    ⟨(some 2), none, .q (.mv (.v (.str []))), []⟩]
def c9_1 : ACode := .ops [
    ⟨(some 3), none, .e (.allocT 72), []⟩]
def c9_2 : ACode := .ops [
    ⟨(some 4), none, .q (.ld (some 12) (.t 1)), []⟩,
    ⟨(some 5), none, .e (.call 32 [(.t 3), (.t 4)]), []⟩]
def c9_3 : ACode := .ops [
    ⟨(some 6), none, .e (.call 33 [(.t 3)]), []⟩,
    ⟨(some 2), none, .q (.mv (.t 6)), []⟩]
def c9_4 : ACode := .seq c9_3 .ret
def c9_5 : ACode := .seq c9_2 c9_4
def c9_6 : ACode := .seq c9_1 c9_5
def c9_7 : ACode := .seq c9_0 c9_6
@[go_sem] theorem c9_0_wp : type_of% (wp_of c9_0.eq_1) := wp_of c9_0.eq_1
@[go_sem] theorem c9_1_wp : type_of% (wp_of c9_1.eq_1) := wp_of c9_1.eq_1
@[go_sem] theorem c9_2_wp : type_of% (wp_of c9_2.eq_1) := wp_of c9_2.eq_1
@[go_sem] theorem c9_3_wp : type_of% (wp_of c9_3.eq_1) := wp_of c9_3.eq_1
@[go_sem] theorem c9_4_wp : type_of% (wp_of c9_4.eq_1) := wp_of c9_4.eq_1
@[go_sem] theorem c9_5_wp : type_of% (wp_of c9_5.eq_1) := wp_of c9_5.eq_1
@[go_sem] theorem c9_6_wp : type_of% (wp_of c9_6.eq_1) := wp_of c9_6.eq_1
@[go_sem] theorem c9_7_wp : type_of% (wp_of c9_7.eq_1) := wp_of c9_7.eq_1
def c9 : AFn := ⟨7, [.t 2], c9_7⟩
set_option maxRecDepth 100000 in
theorem c9_ok : compF Tryz.prog Tryz.f9 = some c9 := by kernel_rfl
theorem a9 {args : List AV} {σ : ASt} {R : AV → ASt → Prop} (hl : args.length ≤ 7) (h : c9_7.wp Tryz.prog (RetQ [.t 2] R) (init args) σ) : ACalls Tryz.prog 9 args σ R := acalls_of Tryz.func9 c9_ok hl h
/-! 19: tabular/tabularref12.Signs -/
end Go.A
namespace Go.A
open Go.Proofs Go.Lib
set_option maxRecDepth 100000
set_option linter.unusedSimpArgs false
set_option linter.unusedVariables false
theorem print_ok {σ : ASt} (hT : Tab σ) (hM : MaxL σ) (n : Nd) (hn : n.ok) (hl : n.spell.length ≤ 900000) : ACalls Tryz.prog 9 [n.av] σ fun v σ' => v = .str n.spell ∧ σ' = σ := by
  have hS := spell_ok n.size n (Nat.le_refl _) hn
  obtain ⟨op, m, s, a, d, kids⟩ := n
  unfold SpellOk at hS
  rw [Nd.av_cs] at hS ⊢
  generalize (Nd.mk op m s a d kids).spell = w at *
  generalize kids.map Nd.av = L at *
  refine a9 (by simp) ?_
  simp (disch := first | assumption | omega | (simp only [List.length_append, List.length_cons, List.length_nil]; omega)) only [go_sem, reduceCtorEq, Nat.reduceEqDiff, Nat.reduceAdd, Nat.reduceSub, Nat.reduceMul, Nat.reduceLeDiff, Int.reduceLT, Int.reduceLE, Int.reduceEq, ↓reduceIte, Int.reduceNeg, Int.reduceAdd, Int.reduceSub, Int.reduceMul, true_imp_iff, forall_const, Nat.mul_one, Int.reduceToNat, Nat.reducePow, Int.reducePow, Bool.true_and, Bool.false_and, Bool.and_false]
  refine boxC_by rfl fun c hc => ?_
  simp (disch := first | assumption | omega | (simp only [List.length_append, List.length_cons, List.length_nil]; omega)) only [go_sem, reduceCtorEq, Nat.reduceEqDiff, Nat.reduceAdd, Nat.reduceSub, Nat.reduceMul, Nat.reduceLeDiff, Int.reduceLT, Int.reduceLE, Int.reduceEq, ↓reduceIte, Int.reduceNeg, Int.reduceAdd, Int.reduceSub, Int.reduceMul, true_imp_iff, forall_const, Nat.mul_one, Int.reduceToNat, Nat.reducePow, Int.reducePow, Bool.true_and, Bool.false_and, Bool.and_false]
  refine allocTC_by fun b hb => ?_
  have hbb := hb
  obtain ⟨n1, n2, n3⟩ := set_none hb
  have hB : BD (σ.set c (some (.obj (Nd.cs op m s a d L)))) b [] ((σ.set c (some (.obj (Nd.cs op m s a d L)))).set b (some (.typ 72 [.pointer none, .slice none 0 0]))) := .inl ⟨rfl, rfl⟩
  have hT1 := hT.set hc (r := some (.obj (Nd.cs op m s a d L)))
  have hM1 := hM.set hc (r := some (.obj (Nd.cs op m s a d L)))
  simp (disch := first | assumption | omega | (simp only [List.length_append, List.length_cons, List.length_nil]; omega)) only [go_sem, reduceCtorEq, Nat.reduceEqDiff, Nat.reduceAdd, Nat.reduceSub, Nat.reduceMul, Nat.reduceLeDiff, Int.reduceLT, Int.reduceLE, Int.reduceEq, ↓reduceIte, Int.reduceNeg, Int.reduceAdd, Int.reduceSub, Int.reduceMul, true_imp_iff, forall_const, Nat.mul_one, Int.reduceToNat, Nat.reducePow, Int.reducePow, Bool.true_and, Bool.false_and, Bool.and_false, n1, n2]
  refine (hS _ _ _ _ hB hbb hT1 hM1 (by simp only [List.length_nil]; omega)).mono ?_
  rintro v σ1 ⟨rfl, hB1⟩
  rw [List.nil_append] at hB1
  simp (disch := first | assumption | omega | (simp only [List.length_append, List.length_cons, List.length_nil]; omega)) only [go_sem, reduceCtorEq, Nat.reduceEqDiff, Nat.reduceAdd, Nat.reduceSub, Nat.reduceMul, Nat.reduceLeDiff, Int.reduceLT, Int.reduceLE, Int.reduceEq, ↓reduceIte, Int.reduceNeg, Int.reduceAdd, Int.reduceSub, Int.reduceMul, true_imp_iff, forall_const, Nat.mul_one, Int.reduceToNat, Nat.reducePow, Int.reducePow, Bool.true_and, Bool.false_and, Bool.and_false]
  refine (bstring_ok hB1 (by omega)).mono ?_
  rintro v σ2 ⟨rfl, rfl⟩
  simp (disch := first | assumption | omega | (simp only [List.length_append, List.length_cons, List.length_nil]; omega)) only [go_sem, reduceCtorEq, Nat.reduceEqDiff, Nat.reduceAdd, Nat.reduceSub, Nat.reduceMul, Nat.reduceLeDiff, Int.reduceLT, Int.reduceLE, Int.reduceEq, ↓reduceIte, Int.reduceNeg, Int.reduceAdd, Int.reduceSub, Int.reduceMul, true_imp_iff, forall_const, Nat.mul_one, Int.reduceToNat, Nat.reducePow, Int.reducePow, Bool.true_and, Bool.false_and, Bool.and_false]
  exact retC_by ((hB1.over hbb).drop.trans (Drop.set hc)) (.refl _) ⟨rfl, rfl⟩
theorem textD_one : textD 10000 = [49] := by
  unfold textD
  rw [if_neg (by decide), show (10000 : Int).natAbs / 10000 = 1 from rfl, show (10000 : Int).natAbs % 10000 = 0 from rfl, dd_small (by decide)]
  decide
theorem textD_two : textD 20000 = [50] := by
  unfold textD
  rw [if_neg (by decide), show (20000 : Int).natAbs / 10000 = 2 from rfl, show (20000 : Int).natAbs % 10000 = 0 from rfl, dd_small (by decide)]
  decide
def numN (n : Int) : Nd := .mk 1 n [] .zero .zero []
def binN (op : Int) (x y : Nd) : Nd := .mk op 0 [] .zero .zero [x, y]
theorem numN_ok {n : Int} (h : n.natAbs ≤ 999999999999999999) : (numN n).ok := by
  unfold numN
  rw [Nd.ok]
  refine ⟨?_, trivial⟩
  unfold nodeOk
  simp
  omega
theorem binN_ok {op : Int} {x y : Nd} (h : 10 ≤ op ∧ op ≤ 21) (hx : x.ok) (hy : y.ok) : (binN op x y).ok := by
  unfold binN
  rw [Nd.ok, Nd.oks, Nd.oks, Nd.oks]
  refine ⟨?_, hx, hy, trivial⟩
  unfold nodeOk
  simp
  omega
theorem numN_spell (n : Int) : (numN n).spell = textD n := by unfold numN; rw [Nd.spell]; rfl
theorem binN_spell {op : Int} {x y : Nd} (h : 10 ≤ op ∧ op ≤ 21) : (binN op x y).spell = insT (levelP op) x.op x.spell ++ signL.getD (op - 10).toNat [] ++ insT (levelP op + 1) y.op y.spell := by
  unfold binN
  rw [Nd.spell, Nd.spells, Nd.spells, Nd.spells]
  unfold spellK
  rw [if_neg (by omega), if_neg (by omega), if_neg (by omega), if_neg (by omega), if_neg (by omega), if_neg (by omega), if_neg (by omega), if_neg (by omega), if_neg (by omega), if_neg (by omega)]
  rfl
def sumN : Nd := binN 11 (numN 10000) (numN 20000)
def awl : Nd := binN 11 sumN (numN 10000)
def awr : Nd := binN 11 (numN 10000) sumN
theorem sum_spell : sumN.spell = [49, 45, 50] := by
  unfold sumN
  rw [binN_spell (by decide), numN_spell, numN_spell, textD_one, textD_two]
  rfl
theorem awl_spell : awl.spell = [49, 45, 50, 45, 49] := by
  unfold awl
  rw [binN_spell (by decide), sum_spell, numN_spell, textD_one]
  rfl
theorem awr_spell : awr.spell = [49, 45, 40, 49, 45, 50, 41] := by
  unfold awr
  rw [binN_spell (by decide), sum_spell, numN_spell, textD_one]
  rfl
theorem sum_ok : sumN.ok := binN_ok (by decide) (numN_ok (by decide)) (numN_ok (by decide))
theorem awl_ok : awl.ok := binN_ok (by decide) sum_ok (numN_ok (by decide))
theorem awr_ok : awr.ok := binN_ok (by decide) (numN_ok (by decide)) sum_ok
set_option maxHeartbeats 1000000 in
theorem eawake_ok {σ : ASt} (hT : Tab σ) (hM : MaxL σ) : ACalls Tryz.prog 8 [] σ fun v σ' => v = .bool true ∧ σ' = σ := by
  refine a8 (by simp) ?_
  simp (disch := first | assumption | omega | (simp only [List.length_append, List.length_cons, List.length_nil]; omega)) only [go_sem, reduceCtorEq, Nat.reduceEqDiff, Nat.reduceAdd, Nat.reduceSub, Nat.reduceMul, Nat.reduceLeDiff, Int.reduceLT, Int.reduceLE, Int.reduceEq, ↓reduceIte, Int.reduceNeg, Int.reduceAdd, Int.reduceSub, Int.reduceMul, true_imp_iff, forall_const, Nat.mul_one, Int.reduceToNat, Nat.reducePow, Int.reducePow, Bool.true_and, Bool.false_and, Bool.and_false]
  refine allocC_by fun b1 h1 => ?_
  simp (disch := first | assumption | omega | (simp only [List.length_append, List.length_cons, List.length_nil]; omega)) only [go_sem, reduceCtorEq, Nat.reduceEqDiff, Nat.reduceAdd, Nat.reduceSub, Nat.reduceMul, Nat.reduceLeDiff, Int.reduceLT, Int.reduceLE, Int.reduceEq, ↓reduceIte, Int.reduceNeg, Int.reduceAdd, Int.reduceSub, Int.reduceMul, true_imp_iff, forall_const, Nat.mul_one, Int.reduceToNat, Nat.reducePow, Int.reducePow, Bool.true_and, Bool.false_and, Bool.and_false, ASt.set_set]
  refine allocC_by fun b2 h2 => ?_
  have k2 := h2
  repeat (with_reducible replace h2 := set_none h2; obtain ⟨_, _, h2⟩ := h2)
  simp (disch := first | assumption | omega | (simp only [List.length_append, List.length_cons, List.length_nil]; omega)) only [go_sem, reduceCtorEq, Nat.reduceEqDiff, Nat.reduceAdd, Nat.reduceSub, Nat.reduceMul, Nat.reduceLeDiff, Int.reduceLT, Int.reduceLE, Int.reduceEq, ↓reduceIte, Int.reduceNeg, Int.reduceAdd, Int.reduceSub, Int.reduceMul, true_imp_iff, forall_const, Nat.mul_one, Int.reduceToNat, Nat.reducePow, Int.reducePow, Bool.true_and, Bool.false_and, Bool.and_false, ASt.set_set]
  refine allocC_by fun b3 h3 => ?_
  have k3 := h3
  repeat (with_reducible replace h3 := set_none h3; obtain ⟨_, _, h3⟩ := h3)
  simp (disch := first | assumption | omega | (simp only [List.length_append, List.length_cons, List.length_nil]; omega)) only [go_sem, reduceCtorEq, Nat.reduceEqDiff, Nat.reduceAdd, Nat.reduceSub, Nat.reduceMul, Nat.reduceLeDiff, Int.reduceLT, Int.reduceLE, Int.reduceEq, ↓reduceIte, Int.reduceNeg, Int.reduceAdd, Int.reduceSub, Int.reduceMul, true_imp_iff, forall_const, Nat.mul_one, Int.reduceToNat, Nat.reducePow, Int.reducePow, Bool.true_and, Bool.false_and, Bool.and_false, ASt.set_set]
  refine allocC_by fun b4 h4 => ?_
  have k4 := h4
  repeat (with_reducible replace h4 := set_none h4; obtain ⟨_, _, h4⟩ := h4)
  simp (disch := first | assumption | omega | (simp only [List.length_append, List.length_cons, List.length_nil]; omega)) only [go_sem, reduceCtorEq, Nat.reduceEqDiff, Nat.reduceAdd, Nat.reduceSub, Nat.reduceMul, Nat.reduceLeDiff, Int.reduceLT, Int.reduceLE, Int.reduceEq, ↓reduceIte, Int.reduceNeg, Int.reduceAdd, Int.reduceSub, Int.reduceMul, true_imp_iff, forall_const, Nat.mul_one, Int.reduceToNat, Nat.reducePow, Int.reducePow, Bool.true_and, Bool.false_and, Bool.and_false, ASt.set_set]
  refine allocC_by fun b5 h5 => ?_
  have k5 := h5
  repeat (with_reducible replace h5 := set_none h5; obtain ⟨_, _, h5⟩ := h5)
  have p1 := fun τ h1 h2 => print_ok (σ := τ) h1 h2 awl awl_ok (by rw [awl_spell]; decide)
  have p2 := fun τ h1 h2 => print_ok (σ := τ) h1 h2 awr awr_ok (by rw [awr_spell]; decide)
  have p3 := nsize_ok awl (by decide)
  have p4 := ndepth_ok awl (by decide)
  rw [awl_spell] at p1
  rw [awr_spell] at p2
  rw [show awl.size = 5 from rfl] at p3
  rw [show awl.depth = 3 from rfl] at p4
  simp (disch := first | assumption | omega | (simp only [List.length_append, List.length_cons, List.length_nil]; omega)) only [go_sem, reduceCtorEq, Nat.reduceEqDiff, Nat.reduceAdd, Nat.reduceSub, Nat.reduceMul, Nat.reduceLeDiff, Int.reduceLT, Int.reduceLE, Int.reduceEq, ↓reduceIte, Int.reduceNeg, Int.reduceAdd, Int.reduceSub, Int.reduceMul, true_imp_iff, forall_const, Nat.mul_one, Int.reduceToNat, Nat.reducePow, Int.reducePow, Bool.true_and, Bool.false_and, Bool.and_false, ASt.set_set]
  refine ACalls.deep (args' := [awl.av]) rfl ((p1 _ (((((hT.set h1).set k2).set k3).set k4).set k5) (((((hM.set h1).set k2).set k3).set k4).set k5)).mono ?_)
  rintro v σ' ⟨rfl, rfl⟩
  simp (disch := first | assumption | omega | (simp only [List.length_append, List.length_cons, List.length_nil]; omega)) only [go_sem, reduceCtorEq, Nat.reduceEqDiff, Nat.reduceAdd, Nat.reduceSub, Nat.reduceMul, Nat.reduceLeDiff, Int.reduceLT, Int.reduceLE, Int.reduceEq, ↓reduceIte, Int.reduceNeg, Int.reduceAdd, Int.reduceSub, Int.reduceMul, true_imp_iff, forall_const, Nat.mul_one, Int.reduceToNat, Nat.reducePow, Int.reducePow, Bool.true_and, Bool.false_and, Bool.and_false]
  refine ACalls.deep (args' := [awr.av]) rfl ((p2 _ (((((hT.set h1).set k2).set k3).set k4).set k5) (((((hM.set h1).set k2).set k3).set k4).set k5)).mono ?_)
  rintro v σ' ⟨rfl, rfl⟩
  simp (disch := first | assumption | omega | (simp only [List.length_append, List.length_cons, List.length_nil]; omega)) only [go_sem, reduceCtorEq, Nat.reduceEqDiff, Nat.reduceAdd, Nat.reduceSub, Nat.reduceMul, Nat.reduceLeDiff, Int.reduceLT, Int.reduceLE, Int.reduceEq, ↓reduceIte, Int.reduceNeg, Int.reduceAdd, Int.reduceSub, Int.reduceMul, true_imp_iff, forall_const, Nat.mul_one, Int.reduceToNat, Nat.reducePow, Int.reducePow, Bool.true_and, Bool.false_and, Bool.and_false]
  refine ACalls.deep (args' := [awl.av]) rfl (p3.use ?_)
  simp (disch := first | assumption | omega | (simp only [List.length_append, List.length_cons, List.length_nil]; omega)) only [go_sem, reduceCtorEq, Nat.reduceEqDiff, Nat.reduceAdd, Nat.reduceSub, Nat.reduceMul, Nat.reduceLeDiff, Int.reduceLT, Int.reduceLE, Int.reduceEq, ↓reduceIte, Int.reduceNeg, Int.reduceAdd, Int.reduceSub, Int.reduceMul, true_imp_iff, forall_const, Nat.mul_one, Int.reduceToNat, Nat.reducePow, Int.reducePow, Bool.true_and, Bool.false_and, Bool.and_false]
  refine ACalls.deep (args' := [awl.av]) rfl (p4.use ?_)
  simp (disch := first | assumption | omega | (simp only [List.length_append, List.length_cons, List.length_nil]; omega)) only [go_sem, reduceCtorEq, Nat.reduceEqDiff, Nat.reduceAdd, Nat.reduceSub, Nat.reduceMul, Nat.reduceLeDiff, Int.reduceLT, Int.reduceLE, Int.reduceEq, ↓reduceIte, Int.reduceNeg, Int.reduceAdd, Int.reduceSub, Int.reduceMul, true_imp_iff, forall_const, Nat.mul_one, Int.reduceToNat, Nat.reducePow, Int.reducePow, Bool.true_and, Bool.false_and, Bool.and_false]
  exact retC_by (by repeat' (first | exact Drop.refl _ | with_reducible refine Drop.off ?_ (by assumption))) (.refl _) ⟨rfl, rfl⟩
end Go.A
namespace Go.A
open Go.Proofs
/-! 11: tabular/expr.Same -/
/-! 17: tabular/expr.Areas -/
/-! 39: slices.EqualFunc[[]tabular/expr.Node,[]tabular/expr.Node,tabular/expr.Node,tabular/expr.Node] -/
/-! 40: tabular/expr.areas -/
/-! 68: (tabular/addr.Ref).Rect -/
/-! 70: slices.Contains[[]tabular/addr.Rect,tabular/addr.Rect] -/
/-! 91: slices.Index[[]tabular/addr.Rect,tabular/addr.Rect] -/
end Go.A
namespace Go.A
set_option linter.unusedSimpArgs false
set_option linter.unusedVariables false
def OwnSl (σ0 σ : ASt) (v : AV) (xs : List AV) (s : Nat) : Prop :=
  (xs = [] ∧ v = .sl .full [] ∧ σ = σ0) ∨ ∃ b c rest, v = .msl b 0 xs.length c ∧ xs.length ≤ c ∧ rest.length = (c - xs.length) * s ∧ σ0 b = none ∧ σ = σ0.set b (some (.obj (xs.flatMap AV.cells ++ rest)))
theorem OwnSl.drop {σ0 σ : ASt} {v : AV} {xs : List AV} {s : Nat} (h : OwnSl σ0 σ v xs s) : Drop σ σ0 := by
  rcases h with ⟨_, _, rfl⟩ | ⟨b, c, rest, _, _, _, hb, rfl⟩
  · exact Drop.refl _
  · exact Drop.set hb
def zrow (s : Nat) (z : List AV) (n c : Nat) : List AV := (List.range ((c - n) * s)).map fun i => z.getD (i % s) .any
theorem zrow_len (s : Nat) (z : List AV) (n c : Nat) : (zrow s z n c).length = (c - n) * s := by simp [zrow]
theorem ownRow_z {s n c : Nat} {z cs : List AV} : ownRow s z cs n c = cs ++ zrow s z n c := rfl
theorem OwnSl.app {e : TypeId} {σ0 σ : ASt} {v : AV} {xs ys z : List AV} {s bytes : Nat} {k2 : SK} {K : AV → ASt → Prop} (h : OwnSl σ0 σ v xs s) (hx : ∀ x ∈ xs, x.cells.length = s) (h2 : wellSz s ys = true) (h3 : leaves (ys.flatMap AV.cells) = true)
    (h4 : (xs.length + ys.length) * bytes ≤ 140737488355328) (h5 : xs.length + ys.length ≤ 4611686018427387904) (h6 : 0 < ys.length)
    (hK : ∀ v' σ', (∃ σ2, Drop σ' σ2 ∧ OwnSl σ0 σ2 v' (xs ++ ys) s) → K v' σ') : appC e s bytes z v (.sl k2 ys) σ K := by
  have hyl : (ys.flatMap AV.cells).length = ys.length * s := lens_flat (wellSz_lens h2)
  have hxl : (xs.flatMap AV.cells).length = xs.length * s := lens_flat hx
  rcases h with ⟨rfl, rfl, rfl⟩ | ⟨b, c, rest, rfl, hc, hr, hb, rfl⟩
  · refine appO_by rfl h2 h3 h4 h5 h6 fun b c hb hc => hK _ _ ⟨_, Drop.refl _, .inr ⟨b, c, zrow s z (([] : List AV).length + ys.length) c, ?_, ?_, ?_, hb, ?_⟩⟩
    · simp
    · simpa using hc
    · rw [zrow_len]; simp
    · rw [ownRow_z]; simp only [List.nil_append, List.flatMap_nil]
  · rw [appC_msl, ASt.set_same]
    refine appM_by h2 h3 h4 h5 (by rw [List.length_append, hxl, hr]; omega) (fun hroom => ⟨?_, ?_⟩) (fun hgrow b' c' hb' hc' => ?_)
    · rw [List.length_append, hxl, hr, Nat.zero_add, ← Nat.add_mul]
      exact Nat.mul_le_mul_right _ (by omega)
    · rw [ASt.set_set]
      refine hK _ _ ⟨_, Drop.refl _, .inr ⟨b, c, rest.drop (ys.length * s), by simp, by simpa using hroom, ?_, hb, ?_⟩⟩
      · rw [List.length_drop, hr, ← Nat.sub_mul, List.length_append]
        congr 1
        omega
      · congr 3
        unfold splice
        rw [Nat.zero_add, List.flatMap_append]
        have e1 : (xs.flatMap AV.cells ++ rest).take (xs.length * s) = xs.flatMap AV.cells := by rw [← hxl]; simp
        have e2 : (xs.flatMap AV.cells ++ rest).drop (xs.length * s + ys.length * s) = rest.drop (ys.length * s) := by rw [← hxl, ← List.drop_drop]; simp
        rw [e1, e2]
    · obtain ⟨m1, m2, hb0⟩ := set_none hb'
      have e1 : ((xs.flatMap AV.cells ++ rest).drop 0).take (xs.length * s) = xs.flatMap AV.cells := by rw [← hxl]; simp
      rw [e1]
      refine hK _ _ ⟨σ0.set b' (some (.obj (ownRow s z (xs.flatMap AV.cells ++ ys.flatMap AV.cells) (xs.length + ys.length) c'))), ?_, .inr ⟨b', c', zrow s z (xs.length + ys.length) c', by simp, by simpa using hc', by rw [zrow_len, List.length_append], hb0, ?_⟩⟩
      · rw [set_swap m2]
        exact Drop.set (by rw [ASt.set_ne m2]; exact hb)
      · rw [ownRow_z, List.flatMap_append]
theorem OwnSl.at {σ0 σ : ASt} {x : Nat} {r : Role} {v : AV} {xs : List AV} {s : Nat} (h : OwnSl σ0 σ v xs s) (hx : σ0 x = some r) : σ x = some r := by
  rcases h with ⟨_, _, rfl⟩ | ⟨b, c, rest, _, _, _, hb, rfl⟩
  · exact hx
  · rw [ASt.set_ne]
    · exact hx
    · rintro rfl; rw [hb] at hx; cases hx
theorem OwnSl.fresh {σ0 σ : ASt} {x : Nat} {v : AV} {xs : List AV} {s : Nat} (h : OwnSl σ0 σ v xs s) (hx : σ x = none) : σ0 x = none := by
  cases hr : σ0 x with
  | none => rfl
  | some r => rw [h.at hr] at hx; cases hx
theorem OwnSl.add {σ0 σ : ASt} {d : Nat} {r : Option Role} {v : AV} {xs : List AV} {s : Nat} (h : OwnSl σ0 σ v xs s) (hd : σ d = none) : OwnSl (σ0.set d r) (σ.set d r) v xs s := by
  rcases h with ⟨h1, h2, rfl⟩ | ⟨b, c, rest, h1, h2, h3, h4, rfl⟩
  · exact .inl ⟨h1, h2, rfl⟩
  · obtain ⟨h5, h6, h7⟩ := set_none hd
    exact .inr ⟨b, c, rest, h1, h2, h3, by rw [ASt.set_ne h6]; exact h4, set_swap h6⟩
theorem OwnSl.less {σ0 σ : ASt} {e : Nat} {E : Role} {v : AV} {xs : List AV} {s : Nat} (h : OwnSl (σ0.set e (some E)) σ v xs s) (he : σ0 e = none) : ∃ σ', Drop σ σ' ∧ OwnSl σ0 σ' v xs s := by
  rcases h with ⟨h1, h2, rfl⟩ | ⟨b, c, rest, h1, h2, h3, h4, rfl⟩
  · exact ⟨σ0, Drop.set he, .inl ⟨h1, h2, rfl⟩⟩
  · obtain ⟨h5, h6, h7⟩ := set_none h4
    refine ⟨σ0.set b (some (.obj (xs.flatMap AV.cells ++ rest))), ?_, .inr ⟨b, c, rest, h1, h2, h3, h7, rfl⟩⟩
    rw [set_swap h6]
    exact Drop.set (by rw [ASt.set_ne h6]; exact he)
theorem OwnSl.fz {σ0 σ σ' : ASt} {v : AV} {xs : List AV} {s : Nat} (h : OwnSl σ0 σ v xs s) (hx : ∀ x ∈ xs, x.cells.length = s) (hn : ∀ b, σ0 b = none → σ' b = none) : Fz σ σ' v (.sl .shr xs) := by
  rcases h with ⟨rfl, rfl, rfl⟩ | ⟨b, c, rest, rfl, h2, h3, h4, rfl⟩
  · exact .sl _ _
  · have hxl : (xs.flatMap AV.cells).length = xs.length * s := lens_flat hx
    refine .msl 0 _ c s xs (ASt.set_same _ _ _) (hn _ h4) rfl h2 hx ?_
    rw [List.drop_zero, ← hxl, List.take_left]
end Go.A
namespace Go.A
open Go.Proofs Go.Lib
set_option maxRecDepth 100000
set_option linter.unusedSimpArgs false
set_option linter.unusedVariables false
structure Rc where
  row : Int
  col : Int
  rows : Int
  cols : Int
  deriving DecidableEq, Inhabited
end Go.A
namespace Go.A
open Go.Proofs
/-! 31: tabular/tabularlaw12.grow -/
/-! 54: tabular/tabularref11.Signs -/
/-! 55: tabular/tabularlaw12.place -/
/-! 80: tabular/tabularref11.Sign -/
/-! 96: tabular/tabularref11.more -/
end Go.A
namespace Go.A
open Go.Proofs Go.Lib
set_option maxRecDepth 100000
set_option linter.unusedSimpArgs false
set_option linter.unusedVariables false
theorem sgF_step {k : Nat} {r : List UInt8} (h0 : r ≠ []) (hv : decodeL r ≠ (65533, 1)) : sgF (k + 1) r = (sgF k (r.drop (decodeL r).2)).map (· + 1) := by
  rw [sgF, if_neg h0, if_neg hv]
theorem sgT_fuel : ∀ (k m : Nat) (r : List UInt8), r.length < k → r.length < m → sgF k r = sgF m r
  | 0, _, r, h, _ => absurd h (Nat.not_lt_zero _)
  | _, 0, r, _, h => absurd h (Nat.not_lt_zero _)
  | k + 1, m + 1, r, h1, h2 => by
    rw [sgF, sgF]
    by_cases h0 : r = []
    · rw [if_pos h0, if_pos h0]
    · rw [if_neg h0, if_neg h0]
      split
      · rfl
      · have hw := decodeL_width r
        have hl := List.length_pos_iff.2 h0
        rw [sgT_fuel k m _ (by rw [List.length_drop]; omega) (by rw [List.length_drop]; omega)]
def sgT (r : List UInt8) : Option Nat := sgF (r.length + 1) r
theorem sgT_nil : sgT [] = some 0 := rfl
theorem sgT_bad {r : List UInt8} (h0 : r ≠ []) (hv : decodeL r = (65533, 1)) : sgT r = none := by
  unfold sgT
  rw [sgF, if_neg h0, if_pos hv]
theorem sgT_step {r : List UInt8} (h0 : r ≠ []) (hv : decodeL r ≠ (65533, 1)) : sgT r = (sgT (r.drop (decodeL r).2)).map (· + 1) := by
  unfold sgT
  rw [sgF_step h0 hv]
  have hw := decodeL_width r
  have hl := List.length_pos_iff.2 h0
  rw [sgT_fuel r.length ((r.drop (decodeL r).2).length + 1) _ (by rw [List.length_drop]; omega) (by omega)]
def sgAV (s : List UInt8) : AV := match sgT s with
  | some n => .tuple [.int .i64 n, .bool true]
  | none => .tuple [.int .i64 0, .bool false]
end Go.A
namespace Go.A
open Go.Proofs Go.Lib
set_option maxRecDepth 100000
set_option linter.unusedSimpArgs false
set_option linter.unusedVariables false
structure Pt where
  op : Int
  n : Int
  s : List UInt8
  a : Ref
  b : Ref
  deriving Inhabited
def ndV (o m : Int) (s : List UInt8) (a b : Ref) (v : AV) : List AV := [.int .i64 o, .int .i64 m, .str s, .int .i64 a.row, .int .i64 a.col, .bool a.absRow, .bool a.absCol, .int .i64 b.row, .int .i64 b.col, .bool b.absRow, .bool b.absCol, v]
section
variable {o m : Int} {s : List UInt8} {a b : Ref} {v w : AV}
@[go_sem] theorem nv_11 : (ndV o m s a b v)[11]? = some v := id rfl
@[go_sem] theorem nv_len : (ndV o m s a b v).length = 12 := id rfl
@[go_sem] theorem nv_take : (ndV o m s a b v).take 12 = ndV o m s a b v := id rfl
@[go_sem] theorem nv_drop : (ndV o m s a b v).drop 12 = [] := id rfl
@[go_sem] theorem nv_put'' : (ndV o m s a b v).take 11 ++ [w] = ndV o m s a b w := id rfl
theorem nv_leaves (h : v.leaf = true) : leaves (ndV o m s a b v) = true := by
  cases v <;> first | rfl | cases h
end
end Go.A
namespace Go.A
open Go.Proofs Go.Lib
set_option maxRecDepth 100000
set_option linter.unusedSimpArgs false
set_option linter.unusedVariables false
def zero12 : List AV := [.int .i64 0, .int .i64 0, .str [], .int .i64 0, .int .i64 0, .bool false, .bool false, .int .i64 0, .int .i64 0, .bool false, .bool false, .sl .full []]
theorem OwnSl.leaf {σ0 σ : ASt} {v : AV} {xs : List AV} {s : Nat} (h : OwnSl σ0 σ v xs s) : v.leaf = true ∧ v.cells = [v] := by
  rcases h with ⟨rfl, rfl, rfl⟩ | ⟨b, c, rest, rfl, _⟩ <;> exact ⟨rfl, rfl⟩
theorem OwnSl.put {σ0 σ : ASt} {d : Nat} {r : Role} {v : AV} {xs : List AV} {s : Nat} (h : OwnSl σ0 σ v xs s) (hd : σ0 d = some r) (r' : Option Role) : OwnSl (σ0.set d r') (σ.set d r') v xs s := by
  rcases h with ⟨h1, h2, rfl⟩ | ⟨b, c, rest, h1, h2, h3, h4, rfl⟩
  · exact .inl ⟨h1, h2, rfl⟩
  · have hbd : b ≠ d := by rintro rfl; rw [hd] at h4; cases h4
    exact .inr ⟨b, c, rest, h1, h2, h3, by rw [ASt.set_ne hbd]; exact h4, set_swap hbd⟩
theorem deeps_map : ∀ l : List Nd, Go.A.deeps (l.map Nd.av) = l.map Nd.av
  | [] => rfl
  | x :: xs => by rw [List.map_cons, deeps_cons, Nd.deep x, deeps_map xs]
theorem leaf1 {v : AV} : leaves [v] = v.leaf := by simp [leaves]
theorem Drop.had {σ σ' : ASt} {b : Nat} {r : Role} (h : Drop σ σ') (hb : σ' b = some r) : σ b = some r := by
  rcases h b with h1 | h1
  · rw [← h1]; exact hb
  · rw [h1] at hb; cases hb
theorem Drop.nil {σ σ' : ASt} {b : Nat} (h : Drop σ σ') (hb : σ b = none) : σ' b = none := by
  rcases h b with h1 | h1
  · rw [h1]; exact hb
  · exact h1
end Go.A
namespace Go.A
open Go.Proofs
/-! 23: (*tabular/vint.Writer).Bytes -/
def c23_0 : ACode := .ops [
    ⟨(some 2), none, .q (.mv (.v (.str []))), []⟩]
def c23_1 : ACode := .ops [
    ⟨(some 3), none, .q (.mv (.t 0)), []⟩,
    ⟨(some 4), none, .q (.nc (.t 3)), []⟩,
    ⟨(some 5), none, .q (.fa 0 (.t 4)), []⟩,
    ⟨(some 6), none, .q (.ld none (.t 5)), []⟩,
    ⟨(some 7), none, .q (.b2s (.t 6)), []⟩,
    ⟨(some 2), none, .q (.mv (.t 7)), []⟩]
def c23_2 : ACode := .seq c23_1 .ret
def c23_3 : ACode := .seq c23_0 c23_2
@[go_sem] theorem c23_0_wp : type_of% (wp_of c23_0.eq_1) := wp_of c23_0.eq_1
@[go_sem] theorem c23_1_wp : type_of% (wp_of c23_1.eq_1) := wp_of c23_1.eq_1
@[go_sem] theorem c23_2_wp : type_of% (wp_of c23_2.eq_1) := wp_of c23_2.eq_1
@[go_sem] theorem c23_3_wp : type_of% (wp_of c23_3.eq_1) := wp_of c23_3.eq_1
def c23 : AFn := ⟨8, [.t 2], c23_3⟩
set_option maxRecDepth 100000 in
theorem c23_ok : compF Tryz.prog Tryz.f23 = some c23 := by kernel_rfl
theorem a23 {args : List AV} {σ : ASt} {R : AV → ASt → Prop} (hl : args.length ≤ 8) (h : c23_3.wp Tryz.prog (RetQ [.t 2] R) (init args) σ) : ACalls Tryz.prog 23 args σ R := acalls_of Tryz.func23 c23_ok hl h
/-! 42: (*tabular/vint.Writer).Uint -/
def c42_0 : ACode := .ops [
    ⟨(some 4), none, .q (.mv (.t 1)), []⟩,
    ⟨(some 5), none, .q (.bin .gtr (.t 4) (.v (.int .u64 127))), []⟩]
def c42_1 : ACode := .cond (.t 5) .skip (.exit 0)
def c42_2 : ACode := .seq c42_0 c42_1
def c42_3 : ACode := .ops [
    ⟨(some 8), none, .q (.mv (.t 0)), []⟩,
    ⟨(some 9), none, .q (.mv (.t 0)), []⟩,
    ⟨(some 10), none, .q (.nc (.t 9)), []⟩,
    ⟨(some 11), none, .q (.fa 0 (.t 10)), []⟩,
    ⟨(some 12), none, .q (.ld none (.t 11)), []⟩,
    ⟨(some 13), none, .q (.mv (.t 1)), []⟩,
    ⟨(some 14), none, .q (.conv .u8 (.t 13)), []⟩,
    ⟨(some 15), none, .q (.bin .or (.t 14) (.v (.int .u8 128))), []⟩,
    ⟨(some 16), none, .q (.bsl 1 [(.t 15)]), []⟩,
    ⟨(some 17), none, .e (.app 5 1 1 [(.int .u8 0)] (.t 12) (.t 16)), []⟩,
    ⟨(some 18), none, .q (.nc (.t 8)), []⟩,
    ⟨(some 19), none, .q (.fa 0 (.t 18)), []⟩,
    ⟨none, none, .e (.store 1 (.t 19) (.t 17)), []⟩]
def c42_4 : ACode := .block 1 c42_3
def c42_5 : ACode := .ops [
    ⟨(some 6), none, .q (.mv (.t 1)), []⟩,
    ⟨(some 7), none, .q (.bin .shr (.t 6) (.v (.int .u64 7))), []⟩,
    ⟨(some 1), none, .q (.mv (.t 7)), []⟩]
def c42_6 : ACode := .seq c42_4 c42_5
def c42_7 : ACode := .seq c42_2 c42_6
def c42_8 : ACode := .loop c42_7
def c42_9 : ACode := .block 0 c42_8
def c42_10 : ACode := .ops [
    ⟨(some 20), none, .q (.mv (.t 0)), []⟩,
    ⟨(some 21), none, .q (.mv (.t 0)), []⟩,
    ⟨(some 22), none, .q (.nc (.t 21)), []⟩,
    ⟨(some 23), none, .q (.fa 0 (.t 22)), []⟩,
    ⟨(some 24), none, .q (.ld none (.t 23)), []⟩,
    ⟨(some 25), none, .q (.mv (.t 1)), []⟩,
    ⟨(some 26), none, .q (.conv .u8 (.t 25)), []⟩,
    ⟨(some 27), none, .q (.bsl 1 [(.t 26)]), []⟩,
    ⟨(some 28), none, .e (.app 5 1 1 [(.int .u8 0)] (.t 24) (.t 27)), []⟩,
    ⟨(some 29), none, .q (.nc (.t 20)), []⟩,
    ⟨(some 30), none, .q (.fa 0 (.t 29)), []⟩,
    ⟨none, none, .e (.store 1 (.t 30) (.t 28)), []⟩]
def c42_11 : ACode := .seq c42_9 c42_10
@[go_sem] theorem c42_0_wp : type_of% (wp_of c42_0.eq_1) := wp_of c42_0.eq_1
@[go_sem] theorem c42_1_wp : type_of% (wp_of c42_1.eq_1) := wp_of c42_1.eq_1
@[go_sem] theorem c42_2_wp : type_of% (wp_of c42_2.eq_1) := wp_of c42_2.eq_1
@[go_sem] theorem c42_3_wp : type_of% (wp_of c42_3.eq_1) := wp_of c42_3.eq_1
@[go_sem] theorem c42_4_wp : type_of% (wp_of c42_4.eq_1) := wp_of c42_4.eq_1
@[go_sem] theorem c42_5_wp : type_of% (wp_of c42_5.eq_1) := wp_of c42_5.eq_1
@[go_sem] theorem c42_6_wp : type_of% (wp_of c42_6.eq_1) := wp_of c42_6.eq_1
@[go_sem] theorem c42_7_wp : type_of% (wp_of c42_7.eq_1) := wp_of c42_7.eq_1
@[go_sem] theorem c42_8_wp : type_of% (wp_of c42_8.eq_1) := wp_of c42_8.eq_1
@[go_sem] theorem c42_9_wp : type_of% (wp_of c42_9.eq_1) := wp_of c42_9.eq_1
@[go_sem] theorem c42_10_wp : type_of% (wp_of c42_10.eq_1) := wp_of c42_10.eq_1
@[go_sem] theorem c42_11_wp : type_of% (wp_of c42_11.eq_1) := wp_of c42_11.eq_1
def c42 : AFn := ⟨31, [], c42_11⟩
set_option maxRecDepth 100000 in
theorem c42_ok : compF Tryz.prog Tryz.f42 = some c42 := by kernel_rfl
theorem a42 {args : List AV} {σ : ASt} {R : AV → ASt → Prop} (hl : args.length ≤ 31) (h : c42_11.wp Tryz.prog (RetQ [] R) (init args) σ) : ACalls Tryz.prog 42 args σ R := acalls_of Tryz.func42 c42_ok hl h
/-! 43: (*tabular/vint.Writer).Int -/
def c43_0 : ACode := .ops [
    ⟨(some 4), none, .q (.mv (.t 0)), []⟩,
    ⟨(some 5), none, .q (.mv (.t 1)), []⟩,
    ⟨(some 6), none, .q (.conv .u64 (.t 5)), []⟩,
    ⟨(some 7), none, .q (.bin .shl (.t 6) (.v (.int .u64 1))), []⟩,
    ⟨(some 8), none, .q (.mv (.t 1)), []⟩,
    ⟨(some 9), none, .q (.bin .shr (.t 8) (.v (.int .u64 63))), []⟩,
    ⟨(some 10), none, .q (.conv .u64 (.t 9)), []⟩,
    ⟨(some 11), none, .q (.bin .xor (.t 7) (.t 10)), []⟩,
    ⟨(some 12), none, .e (.call 42 [(.t 4), (.t 11)]), []⟩]
@[go_sem] theorem c43_0_wp : type_of% (wp_of c43_0.eq_1) := wp_of c43_0.eq_1
def c43 : AFn := ⟨13, [], c43_0⟩
set_option maxRecDepth 100000 in
theorem c43_ok : compF Tryz.prog Tryz.f43 = some c43 := by kernel_rfl
theorem a43 {args : List AV} {σ : ASt} {R : AV → ASt → Prop} (hl : args.length ≤ 13) (h : c43_0.wp Tryz.prog (RetQ [] R) (init args) σ) : ACalls Tryz.prog 43 args σ R := acalls_of Tryz.func43 c43_ok hl h
/-! 44: (*tabular/vint.Writer).Text -/
def c44_0 : ACode := .ops [
    ⟨(some 4), none, .q (.mv (.t 0)), []⟩,
    ⟨(some 5), none, .q (.mv (.t 1)), []⟩,
    ⟨(some 6), none, .q (.lenS (.t 5)), []⟩,
    ⟨(some 7), none, .q (.conv .u64 (.t 6)), []⟩,
    ⟨(some 8), none, .e (.call 42 [(.t 4), (.t 7)]), []⟩]
def c44_1 : ACode := .ops [
    ⟨(some 9), none, .q (.mv (.t 0)), []⟩,
    ⟨(some 10), none, .q (.mv (.t 0)), []⟩,
    ⟨(some 11), none, .q (.nc (.t 10)), []⟩,
    ⟨(some 12), none, .q (.fa 0 (.t 11)), []⟩,
    ⟨(some 13), none, .q (.ld none (.t 12)), []⟩,
    ⟨(some 14), none, .q (.mv (.t 1)), []⟩,
    ⟨(some 15), none, .e (.apps 5 (.t 13) (.t 14)), []⟩,
    ⟨(some 16), none, .q (.nc (.t 9)), []⟩,
    ⟨(some 17), none, .q (.fa 0 (.t 16)), []⟩,
    ⟨none, none, .e (.store 1 (.t 17) (.t 15)), []⟩]
def c44_2 : ACode := .seq c44_0 c44_1
@[go_sem] theorem c44_0_wp : type_of% (wp_of c44_0.eq_1) := wp_of c44_0.eq_1
@[go_sem] theorem c44_1_wp : type_of% (wp_of c44_1.eq_1) := wp_of c44_1.eq_1
@[go_sem] theorem c44_2_wp : type_of% (wp_of c44_2.eq_1) := wp_of c44_2.eq_1
def c44 : AFn := ⟨18, [], c44_2⟩
set_option maxRecDepth 100000 in
theorem c44_ok : compF Tryz.prog Tryz.f44 = some c44 := by kernel_rfl
theorem a44 {args : List AV} {σ : ASt} {R : AV → ASt → Prop} (hl : args.length ≤ 18) (h : c44_2.wp Tryz.prog (RetQ [] R) (init args) σ) : ACalls Tryz.prog 44 args σ R := acalls_of Tryz.func44 c44_ok hl h
end Go.A
namespace Go.A
open Go.Proofs Go.Vint
set_option maxRecDepth 100000
set_option linter.unusedSimpArgs false
set_option linter.unusedVariables false
def W (σ0 : ASt) (b : Nat) (l : List UInt8) (σ : ASt) : Prop := ∃ k, Grown (σ0.set b (some (.obj [.sl k (bytesAV l)]))) σ k (bytesAV l).length 1
theorem W.cell {σ0 σ : ASt} {b : Nat} {l : List UInt8} {k : SK} (h : Grown (σ0.set b (some (.obj [.sl k (bytesAV l)]))) σ k (bytesAV l).length 1) : σ b = some (.obj [.sl k (bytesAV l)]) := h.at (ASt.set_same _ _ _)
theorem vb_app (l m : List UInt8) : bytesAV l ++ bytesAV m = bytesAV (l ++ m) := by simp [bytesAV]
theorem bytesAV_one {n : Int} (h0 : 0 ≤ n) (h1 : n < 256) : [AV.int .u8 n] = bytesAV [u8Of n] := by
  have := u8_nat (n := n.toNat) (by omega)
  simp only [bytesAV, u8Of, List.map_cons, List.map_nil, this]
  rw [Int.toNat_of_nonneg h0]
theorem W.app {σ0 σ : ASt} {b : Nat} {l m : List UInt8} {k k' : SK} (h : Grown (σ0.set b (some (.obj [.sl k (bytesAV l)]))) σ k' (bytesAV l ++ bytesAV m).length 1) :
    W σ0 b (l ++ m) (σ.set b (some (.obj [.sl k' (bytesAV l ++ bytesAV m)]))) := by
  rw [vb_app] at h ⊢
  exact ⟨k', h.obj⟩
theorem or128 (u : Int) : ((BitVec.ofInt 8 (u % 256) ||| BitVec.ofInt 8 128).toNat : Int) = 128 + u % 128 := by
  have h : IntKind.wrap .u8 ((BitVec.ofInt 8 (u % 256) ||| BitVec.ofInt 8 128).toNat : Int) = 128 + u % 128 := or_128 u
  rwa [IntKind.wrap_u8, Int.emod_eq_of_lt (by omega) (by omega)] at h
theorem fold64 {n : Int} (h1 : -9223372036854775808 ≤ n) (h2 : n ≤ 9223372036854775807) :
    ((BitVec.ofInt 64 (IntKind.wrap .u64 (IntKind.wrap .u64 n * 2)) ^^^ BitVec.ofInt 64 (IntKind.wrap .u64 (n / 9223372036854775808))).toNat : Int) = foldI n := by
  have h : IntKind.wrap .u64 ((BitVec.ofInt 64 (IntKind.wrap .u64 (IntKind.wrap .u64 n * 2)) ^^^ BitVec.ofInt 64 (IntKind.wrap .u64 (n / 9223372036854775808))).toNat : Int) = foldI n := fold_bits n h1 h2
  rwa [IntKind.wrap_u64, Int.emod_eq_of_lt (by omega) (by omega)] at h
theorem vappB {T : TypeId} {σ σ0 : ASt} {k k2 : SK} {xs z : List AV} {n m : Int} {K : AV → ASt → Prop} (h : Grown σ0 σ k xs.length 1) (hn : n = m) (h0 : 0 ≤ m) (h1 : m < 256) (hl : xs.length < 4611686018427)
    (hK : ∀ k' σ', Grown σ0 σ' k' (xs ++ bytesAV [u8Of m]).length 1 → K (.sl k' (xs ++ bytesAV [u8Of m])) σ') : appC T 1 1 z (.sl k xs) (.sl k2 [.int .u8 n]) σ K := by
  subst hn
  rw [bytesAV_one h0 h1]
  exact appC_by h rfl rfl (by simp [bytesAV]; omega) (by simp [bytesAV]; omega) hK
theorem wrap8 (u : Int) : IntKind.wrap .u8 u = u % 256 := IntKind.wrap_u8 u
theorem wuint_ok (σ0 : ASt) (b : Nat) (u : Int) (l : List UInt8) (σ : ASt) (hW : W σ0 b l σ) (h0 : 0 ≤ u) (h1 : u ≤ 18446744073709551615) (hl : l.length + (uintB u.toNat).length ≤ 1000000) :
    ACalls Tryz.prog 42 [.ptr b 0, .int .u64 u] σ fun v σ' => v = .tuple [] ∧ W σ0 b (l ++ uintB u.toNat) σ' := by
  obtain ⟨q, hq⟩ : ∃ q, l ++ uintB u.toNat = q := ⟨_, rfl⟩
  have hql : q.length ≤ 1000000 := by rw [← hq]; simpa using hl
  rw [hq]
  refine a42 (by simp) ?_
  simp (disch := first | assumption | omega | (simp only [List.length_append, List.length_cons, List.length_nil]; omega)) only [go_sem, reduceCtorEq, Nat.reduceEqDiff, Nat.reduceAdd, Nat.reduceSub, Nat.reduceMul, Nat.reduceLeDiff, Int.reduceLT, Int.reduceLE, Int.reduceEq, ↓reduceIte, Int.reduceNeg, Int.reduceAdd, Int.reduceSub, Int.reduceMul, true_imp_iff, forall_const, Nat.mul_one, Int.reduceToNat, Nat.reducePow, Int.reducePow, Bool.true_and, Bool.false_and, Bool.and_false]
  refine wp_loop_on (fun (i : Int × List UInt8) a σ' => (0 ≤ i.1 ∧ i.1 ≤ 18446744073709551615 ∧ i.2 ++ uintB i.1.toNat = q) ∧ (a 0 = .ptr b 0 ∧ a 1 = .int .u64 i.1) ∧ W σ0 b i.2 σ') (fun i => i.1.toNat) (u, l) ⟨⟨h0, h1, hq⟩, ?_, hW⟩ ?_
  · simp (disch := first | assumption | omega | (simp only [List.length_append, List.length_cons, List.length_nil]; omega)) only [go_sem, reduceCtorEq, Nat.reduceEqDiff, Nat.reduceAdd, Nat.reduceSub, Nat.reduceMul, Nat.reduceLeDiff, Int.reduceLT, Int.reduceLE, Int.reduceEq, ↓reduceIte, Int.reduceNeg, Int.reduceAdd, Int.reduceSub, Int.reduceMul, true_imp_iff, forall_const, Nat.mul_one, Int.reduceToNat, Nat.reducePow, Int.reducePow, Bool.true_and, Bool.false_and, Bool.and_false]
  rintro ⟨u, l⟩ a σ ⟨⟨h0, h1, hq⟩, hf, k, hg⟩
  dsimp only at h0 h1 hq hf hg
  have hb := W.cell hg
  have hll : l.length ≤ 1000000 := by rw [← hq] at hql; simp at hql; omega
  have hll' : (bytesAV l).length ≤ 1000000 := by simpa [bytesAV] using hll
  by_cases hu : 127 < u
  · have hw := wrap8 u
    simp (disch := first | assumption | omega | (simp only [List.length_append, List.length_cons, List.length_nil]; omega)) only [go_sem, reduceCtorEq, Nat.reduceEqDiff, Nat.reduceAdd, Nat.reduceSub, Nat.reduceMul, Nat.reduceLeDiff, Int.reduceLT, Int.reduceLE, Int.reduceEq, ↓reduceIte, Int.reduceNeg, Int.reduceAdd, Int.reduceSub, Int.reduceMul, true_imp_iff, forall_const, Nat.mul_one, Int.reduceToNat, Nat.reducePow, Int.reducePow, Bool.true_and, Bool.false_and, Bool.and_false, hf, hb, hu, hw]
    refine vappB hg (or128 u) (by omega) (by omega) (by omega) fun k' σ' hg' => ?_
    have hb' := (hg'.at (ASt.set_same _ _ _))
    simp (disch := first | assumption | omega | (simp only [List.length_append, List.length_cons, List.length_nil]; omega)) only [go_sem, reduceCtorEq, Nat.reduceEqDiff, Nat.reduceAdd, Nat.reduceSub, Nat.reduceMul, Nat.reduceLeDiff, Int.reduceLT, Int.reduceLE, Int.reduceEq, ↓reduceIte, Int.reduceNeg, Int.reduceAdd, Int.reduceSub, Int.reduceMul, true_imp_iff, forall_const, Nat.mul_one, Int.reduceToNat, Nat.reducePow, Int.reducePow, Bool.true_and, Bool.false_and, Bool.and_false, hf, hb']
    refine ⟨(u / 128, l ++ [u8Of (128 + u % 128)]), by dsimp only; omega, ⟨by dsimp only; omega, by dsimp only; omega, ?_⟩, ?_, W.app hg'⟩
    · dsimp only
      rw [← hq, uintB_j (u := u) (by omega)]
      simp
    · simp (disch := first | assumption | omega | (simp only [List.length_append, List.length_cons, List.length_nil]; omega)) only [go_sem, reduceCtorEq, Nat.reduceEqDiff, Nat.reduceAdd, Nat.reduceSub, Nat.reduceMul, Nat.reduceLeDiff, Int.reduceLT, Int.reduceLE, Int.reduceEq, ↓reduceIte, Int.reduceNeg, Int.reduceAdd, Int.reduceSub, Int.reduceMul, true_imp_iff, forall_const, Nat.mul_one, Int.reduceToNat, Nat.reducePow, Int.reducePow, Bool.true_and, Bool.false_and, Bool.and_false, hf]
  · have hw := wrap8 u
    have hw2 : u % 256 = u := by omega
    rw [hw2] at hw
    have hu' := uintB_i h0 (by omega)
    rw [hu'] at hq
    subst hq
    simp (disch := first | assumption | omega | (simp only [List.length_append, List.length_cons, List.length_nil]; omega)) only [go_sem, reduceCtorEq, Nat.reduceEqDiff, Nat.reduceAdd, Nat.reduceSub, Nat.reduceMul, Nat.reduceLeDiff, Int.reduceLT, Int.reduceLE, Int.reduceEq, ↓reduceIte, Int.reduceNeg, Int.reduceAdd, Int.reduceSub, Int.reduceMul, true_imp_iff, forall_const, Nat.mul_one, Int.reduceToNat, Nat.reducePow, Int.reducePow, Bool.true_and, Bool.false_and, Bool.and_false, hf, hb, hu, hw]
    refine vappB hg rfl (by omega) (by omega) (by omega) fun k' σ' hg' => ?_
    have hb' := (hg'.at (ASt.set_same _ _ _))
    simp (disch := first | assumption | omega | (simp only [List.length_append, List.length_cons, List.length_nil]; omega)) only [go_sem, reduceCtorEq, Nat.reduceEqDiff, Nat.reduceAdd, Nat.reduceSub, Nat.reduceMul, Nat.reduceLeDiff, Int.reduceLT, Int.reduceLE, Int.reduceEq, ↓reduceIte, Int.reduceNeg, Int.reduceAdd, Int.reduceSub, Int.reduceMul, true_imp_iff, forall_const, Nat.mul_one, Int.reduceToNat, Nat.reducePow, Int.reducePow, Bool.true_and, Bool.false_and, Bool.and_false, hf, hb']
    exact retC_by (Drop.refl _) (.refl _) ⟨rfl, W.app hg'⟩
theorem wint_ok (σ0 : ASt) (b : Nat) (n : Int) (l : List UInt8) (σ : ASt) (hW : W σ0 b l σ) (h1 : -9223372036854775808 ≤ n) (h2 : n ≤ 9223372036854775807) (hl : l.length + 10 ≤ 1000000) :
    ACalls Tryz.prog 43 [.ptr b 0, .int .i64 n] σ fun v σ' => v = .tuple [] ∧ W σ0 b (l ++ uintB (foldI n).toNat) σ' := by
  refine a43 (by simp) ?_
  obtain ⟨f0, f1⟩ := foldI_bd h1 h2
  simp (disch := first | assumption | omega | (simp only [List.length_append, List.length_cons, List.length_nil]; omega)) only [go_sem, reduceCtorEq, Nat.reduceEqDiff, Nat.reduceAdd, Nat.reduceSub, Nat.reduceMul, Nat.reduceLeDiff, Int.reduceLT, Int.reduceLE, Int.reduceEq, ↓reduceIte, Int.reduceNeg, Int.reduceAdd, Int.reduceSub, Int.reduceMul, true_imp_iff, forall_const, Nat.mul_one, Int.reduceToNat, Nat.reducePow, Int.reducePow, Bool.true_and, Bool.false_and, Bool.and_false]
  refine ACalls.of_eq (congrArg (fun x => [AV.ptr b 0, AV.int .u64 x]) (fold64 h1 h2)) ?_
  refine (wuint_ok σ0 b (foldI n) l σ hW f0 f1 (by have := uintB_le f1; omega)).mono ?_
  rintro v σ' ⟨rfl, h⟩
  simp (disch := first | assumption | omega | (simp only [List.length_append, List.length_cons, List.length_nil]; omega)) only [go_sem, reduceCtorEq, Nat.reduceEqDiff, Nat.reduceAdd, Nat.reduceSub, Nat.reduceMul, Nat.reduceLeDiff, Int.reduceLT, Int.reduceLE, Int.reduceEq, ↓reduceIte, Int.reduceNeg, Int.reduceAdd, Int.reduceSub, Int.reduceMul, true_imp_iff, forall_const, Nat.mul_one, Int.reduceToNat, Nat.reducePow, Int.reducePow, Bool.true_and, Bool.false_and, Bool.and_false]
  exact retC_by (Drop.refl _) (.refl _) ⟨rfl, h⟩
theorem wtext_ok (σ0 : ASt) (b : Nat) (s l : List UInt8) (σ : ASt) (hW : W σ0 b l σ) (hl : l.length + 10 + s.length ≤ 1000000) :
    ACalls Tryz.prog 44 [.ptr b 0, .str s] σ fun v σ' => v = .tuple [] ∧ W σ0 b (l ++ textB s) σ' := by
  refine a44 (by simp) ?_
  simp (disch := first | assumption | omega | (simp only [List.length_append, List.length_cons, List.length_nil]; omega)) only [go_sem, reduceCtorEq, Nat.reduceEqDiff, Nat.reduceAdd, Nat.reduceSub, Nat.reduceMul, Nat.reduceLeDiff, Int.reduceLT, Int.reduceLE, Int.reduceEq, ↓reduceIte, Int.reduceNeg, Int.reduceAdd, Int.reduceSub, Int.reduceMul, true_imp_iff, forall_const, Nat.mul_one, Int.reduceToNat, Nat.reducePow, Int.reducePow, Bool.true_and, Bool.false_and, Bool.and_false]
  have hu := uintB_le (u := s.length) (by omega)
  rw [Int.toNat_natCast] at hu
  refine (wuint_ok σ0 b s.length l σ hW (by omega) (by omega) (by rw [Int.toNat_natCast]; omega)).mono ?_
  rintro v σ' ⟨rfl, k, hg⟩
  rw [Int.toNat_natCast] at hg
  have hb := W.cell hg
  simp (disch := first | assumption | omega | (simp only [List.length_append, List.length_cons, List.length_nil]; omega)) only [go_sem, reduceCtorEq, Nat.reduceEqDiff, Nat.reduceAdd, Nat.reduceSub, Nat.reduceMul, Nat.reduceLeDiff, Int.reduceLT, Int.reduceLE, Int.reduceEq, ↓reduceIte, Int.reduceNeg, Int.reduceAdd, Int.reduceSub, Int.reduceMul, true_imp_iff, forall_const, Nat.mul_one, Int.reduceToNat, Nat.reducePow, Int.reducePow, Bool.true_and, Bool.false_and, Bool.and_false, hb]
  have hlen : (bytesAV (l ++ uintB s.length)).length + s.length ≤ 140737488355328 := by simp [bytesAV]; omega
  refine appsC_by hg hlen fun k' σ' hg' => ?_
  have hb' := (hg'.at (ASt.set_same _ _ _))
  simp (disch := first | assumption | omega | (simp only [List.length_append, List.length_cons, List.length_nil]; omega)) only [go_sem, reduceCtorEq, Nat.reduceEqDiff, Nat.reduceAdd, Nat.reduceSub, Nat.reduceMul, Nat.reduceLeDiff, Int.reduceLT, Int.reduceLE, Int.reduceEq, ↓reduceIte, Int.reduceNeg, Int.reduceAdd, Int.reduceSub, Int.reduceMul, true_imp_iff, forall_const, Nat.mul_one, Int.reduceToNat, Nat.reducePow, Int.reducePow, Bool.true_and, Bool.false_and, Bool.and_false, hb']
  refine retC_by (Drop.refl _) (.refl _) ⟨rfl, ?_⟩
  have : l ++ textB s = (l ++ uintB s.length) ++ s := by simp [textB]
  rw [this]
  refine W.app (k := k) ?_
  rw [List.length_append, bytesAV_length (l := s)]
  exact hg'
theorem wbytes_ok (σ0 : ASt) (b : Nat) (l : List UInt8) (σ : ASt) (hW : W σ0 b l σ) : ACalls Tryz.prog 23 [.ptr b 0] σ fun v σ' => v = .str l ∧ σ' = σ := by
  obtain ⟨k, hg⟩ := hW
  have hb := W.cell hg
  refine a23 (by simp) ?_
  simp (disch := first | assumption | omega | (simp only [List.length_append, List.length_cons, List.length_nil]; omega)) only [go_sem, reduceCtorEq, Nat.reduceEqDiff, Nat.reduceAdd, Nat.reduceSub, Nat.reduceMul, Nat.reduceLeDiff, Int.reduceLT, Int.reduceLE, Int.reduceEq, ↓reduceIte, Int.reduceNeg, Int.reduceAdd, Int.reduceSub, Int.reduceMul, true_imp_iff, forall_const, Nat.mul_one, Int.reduceToNat, Nat.reducePow, Int.reducePow, Bool.true_and, Bool.false_and, Bool.and_false, hb]
  exact retC_by (Drop.refl _) (.refl _) ⟨rfl, rfl⟩
theorem W.add {σ0 σ : ASt} {b c : Nat} {l : List UInt8} {r : Role} (h : W σ0 b l σ) (hc : σ c = none) : W (σ0.set c (some r)) b l (σ.set c (some r)) ∧ c ≠ b ∧ σ0 c = none := by
  obtain ⟨k, hg⟩ := h
  have hb := W.cell hg
  have hcb : c ≠ b := by rintro rfl; rw [hb] at hc; cases hc
  have h0 : σ0 c = none := by
    rcases hg with ⟨_, _, rfl⟩ | ⟨t, T, _, _, rfl⟩
    · rwa [ASt.set_ne hcb] at hc
    · obtain ⟨_, _, hc⟩ := set_none hc
      rwa [ASt.set_ne hcb] at hc
  refine ⟨⟨k, ?_⟩, hcb, h0⟩
  rcases hg with ⟨h1, h2, rfl⟩ | ⟨t, T, h1, h2, rfl⟩
  · exact .inl ⟨h1, h2, set_swap (Ne.symm hcb)⟩
  · obtain ⟨h3, h4, _⟩ := set_none hc
    obtain ⟨h5, h6, h7⟩ := set_none h2
    refine .inr ⟨t, T, h1, ?_, ?_⟩
    · rw [ASt.set_ne h5, ASt.set_ne (Ne.symm h3)]; exact h7
    · rw [set_swap h4, set_swap (Ne.symm hcb)]
theorem W.off {σ0 σ : ASt} {b c : Nat} {l : List UInt8} {r : Role} (h : W (σ0.set c (some r)) b l σ) (hcb : c ≠ b) (hc : σ0 c = none) : ∃ σ', Drop σ σ' ∧ W σ0 b l σ' ∧ σ = σ'.set c (some r) := by
  obtain ⟨k, hg⟩ := h
  rcases hg with ⟨h1, h2, rfl⟩ | ⟨t, T, h1, h2, rfl⟩
  · refine ⟨σ0.set b (some (.obj [.sl k (bytesAV l)])), ?_, ⟨k, .inl ⟨h1, h2, rfl⟩⟩, (set_swap hcb)⟩
    rw [set_swap hcb]
    exact Drop.set (by rw [ASt.set_ne hcb]; exact hc)
  · obtain ⟨h3, h4, h5⟩ := set_none h2
    obtain ⟨h6, h7, h8⟩ := set_none h5
    have e : ((σ0.set c (some r)).set b (some (.obj [.sl k (bytesAV l)]))).set t (some (.tok ((bytesAV l).length * 1))) = ((σ0.set b (some (.obj [.sl k (bytesAV l)]))).set t (some (.tok ((bytesAV l).length * 1)))).set c (some r) := by
      rw [set_swap hcb, set_swap h7]
    refine ⟨(σ0.set b (some (.obj [.sl k (bytesAV l)]))).set t (some (.tok ((bytesAV l).length * 1))), ?_, ⟨k, .inr ⟨t, T, h1, ?_, rfl⟩⟩, e⟩
    · rw [e]
      exact Drop.set (by rw [ASt.set_ne h7, ASt.set_ne hcb]; exact hc)
    · rw [ASt.set_ne h3]; exact h8
theorem W.role {σ0 σ : ASt} {b c : Nat} {l : List UInt8} {r : Role} (h : W (σ0.set c (some r)) b l σ) (hcb : c ≠ b) : σ c = some r := by
  obtain ⟨k, hg⟩ := h
  exact hg.at (by rw [ASt.set_ne hcb, ASt.set_same])
end Go.A
namespace Go.A
open Go.Proofs
/-! 27: tabular/vint.Read -/
def c27_0 : ACode := .ops [
    ⟨(some 2), none, .q (.mv (.v .nilp)), []⟩]
def c27_1 : ACode := .ops [
    ⟨(some 3), none, .q (.mv (.t 0)), []⟩,
    ⟨(some 4), none, .q (.build [(.str []), (.int .i64 0), (.int .i64 0)] [(0, 1, (.t 3))]), []⟩,
    ⟨(some 5), none, .e (.box (.t 4)), []⟩,
    ⟨(some 2), none, .q (.mv (.t 5)), []⟩]
def c27_2 : ACode := .seq c27_1 .ret
def c27_3 : ACode := .seq c27_0 c27_2
@[go_sem] theorem c27_0_wp : type_of% (wp_of c27_0.eq_1) := wp_of c27_0.eq_1
@[go_sem] theorem c27_1_wp : type_of% (wp_of c27_1.eq_1) := wp_of c27_1.eq_1
@[go_sem] theorem c27_2_wp : type_of% (wp_of c27_2.eq_1) := wp_of c27_2.eq_1
@[go_sem] theorem c27_3_wp : type_of% (wp_of c27_3.eq_1) := wp_of c27_3.eq_1
def c27 : AFn := ⟨6, [.t 2], c27_3⟩
set_option maxRecDepth 100000 in
theorem c27_ok : compF Tryz.prog Tryz.f27 = some c27 := by kernel_rfl
theorem a27 {args : List AV} {σ : ASt} {R : AV → ASt → Prop} (hl : args.length ≤ 6) (h : c27_3.wp Tryz.prog (RetQ [.t 2] R) (init args) σ) : ACalls Tryz.prog 27 args σ R := acalls_of Tryz.func27 c27_ok hl h
/-! 29: (*tabular/vint.Reader).At -/
def c29_0 : ACode := .ops [
    ⟨(some 2), none, .q (.mv (.v (.int .i64 0))), []⟩]
def c29_1 : ACode := .ops [
    ⟨(some 3), none, .q (.mv (.t 0)), []⟩,
    ⟨(some 4), none, .q (.nc (.t 3)), []⟩,
    ⟨(some 5), none, .q (.fa 1 (.t 4)), []⟩,
    ⟨(some 6), none, .q (.ld none (.t 5)), []⟩,
    ⟨(some 2), none, .q (.mv (.t 6)), []⟩]
def c29_2 : ACode := .seq c29_1 .ret
def c29_3 : ACode := .seq c29_0 c29_2
@[go_sem] theorem c29_0_wp : type_of% (wp_of c29_0.eq_1) := wp_of c29_0.eq_1
@[go_sem] theorem c29_1_wp : type_of% (wp_of c29_1.eq_1) := wp_of c29_1.eq_1
@[go_sem] theorem c29_2_wp : type_of% (wp_of c29_2.eq_1) := wp_of c29_2.eq_1
@[go_sem] theorem c29_3_wp : type_of% (wp_of c29_3.eq_1) := wp_of c29_3.eq_1
def c29 : AFn := ⟨7, [.t 2], c29_3⟩
set_option maxRecDepth 100000 in
theorem c29_ok : compF Tryz.prog Tryz.f29 = some c29 := by kernel_rfl
theorem a29 {args : List AV} {σ : ASt} {R : AV → ASt → Prop} (hl : args.length ≤ 7) (h : c29_3.wp Tryz.prog (RetQ [.t 2] R) (init args) σ) : ACalls Tryz.prog 29 args σ R := acalls_of Tryz.func29 c29_ok hl h
/-! 30: (*tabular/vint.Reader).Done -/
/-! 53: (*tabular/vint.Reader).fail -/
def c53_0 : ACode := .ops [
    ⟨(some 4), none, .q (.mv (.t 0)), []⟩,
    ⟨(some 5), none, .q (.nc (.t 4)), []⟩,
    ⟨(some 6), none, .q (.fa 2 (.t 5)), []⟩,
    ⟨(some 7), none, .q (.ld none (.t 6)), []⟩,
    ⟨(some 8), none, .q (.bin .eql (.t 7) (.v (.int .i64 0))), []⟩]
def c53_1 : ACode := .ops [
    ⟨(some 9), none, .q (.mv (.t 0)), []⟩,
    ⟨(some 10), none, .q (.mv (.t 1)), []⟩,
    ⟨(some 11), none, .q (.nc (.t 9)), []⟩,
    ⟨(some 12), none, .q (.fa 2 (.t 11)), []⟩,
    ⟨none, none, .e (.store 1 (.t 12) (.t 10)), []⟩]
def c53_2 : ACode := .cond (.t 8) c53_1 .skip
def c53_3 : ACode := .seq c53_0 c53_2
@[go_sem] theorem c53_0_wp : type_of% (wp_of c53_0.eq_1) := wp_of c53_0.eq_1
@[go_sem] theorem c53_1_wp : type_of% (wp_of c53_1.eq_1) := wp_of c53_1.eq_1
@[go_sem] theorem c53_2_wp : type_of% (wp_of c53_2.eq_1) := wp_of c53_2.eq_1
@[go_sem] theorem c53_3_wp : type_of% (wp_of c53_3.eq_1) := wp_of c53_3.eq_1
def c53 : AFn := ⟨13, [], c53_3⟩
set_option maxRecDepth 100000 in
theorem c53_ok : compF Tryz.prog Tryz.f53 = some c53 := by kernel_rfl
theorem a53 {args : List AV} {σ : ASt} {R : AV → ASt → Prop} (hl : args.length ≤ 13) (h : c53_3.wp Tryz.prog (RetQ [] R) (init args) σ) : ACalls Tryz.prog 53 args σ R := acalls_of Tryz.func53 c53_ok hl h
/-! 71: (*tabular/vint.Reader).Uint -/
def c71_0 : ACode := .ops [
    ⟨(some 2), none, .q (.mv (.v (.int .u64 0))), []⟩]
def c71_1 : ACode := .ops [
    ⟨(some 3), none, .q (.mv (.v (.int .u64 0))), []⟩]
def c71_2 : ACode := .ops [
    ⟨(some 4), none, .q (.mv (.v (.int .i64 0))), []⟩]
def c71_3 : ACode := .ops [
    ⟨(some 6), none, .q (.mv (.t 0)), []⟩,
    ⟨(some 7), none, .q (.nc (.t 6)), []⟩,
    ⟨(some 8), none, .q (.fa 2 (.t 7)), []⟩,
    ⟨(some 9), none, .q (.ld none (.t 8)), []⟩,
    ⟨(some 10), none, .q (.bin .eql (.t 9) (.v (.int .i64 0))), []⟩]
def c71_4 : ACode := .cond (.t 10) .skip (.exit 0)
def c71_5 : ACode := .seq c71_3 c71_4
def c71_6 : ACode := .ops [
    ⟨(some 13), none, .q (.mv (.t 0)), []⟩,
    ⟨(some 14), none, .q (.nc (.t 13)), []⟩,
    ⟨(some 15), none, .q (.fa 1 (.t 14)), []⟩,
    ⟨(some 16), none, .q (.ld none (.t 15)), []⟩,
    ⟨(some 17), none, .q (.mv (.t 4)), []⟩,
    ⟨(some 18), none, .q (.bin .add (.t 16) (.t 17)), []⟩,
    ⟨(some 19), none, .q (.mv (.t 0)), []⟩,
    ⟨(some 20), none, .q (.nc (.t 19)), []⟩,
    ⟨(some 21), none, .q (.fa 0 (.t 20)), []⟩,
    ⟨(some 22), none, .q (.ld none (.t 21)), []⟩,
    ⟨(some 23), none, .q (.lenS (.t 22)), []⟩,
    ⟨(some 24), none, .q (.bin .geq (.t 18) (.t 23)), []⟩]
def c71_7 : ACode := .ops [
    ⟨(some 25), none, .q (.mv (.t 0)), []⟩,
    ⟨(some 26), none, .e (.call 53 [(.t 25), (.v (.int .i64 2))]), []⟩]
def c71_8 : ACode := .seq c71_7 (.exit 0)
def c71_9 : ACode := .cond (.t 24) c71_8 .skip
def c71_10 : ACode := .seq c71_6 c71_9
def c71_11 : ACode := .ops [
    ⟨(some 27), none, .q (.mv (.t 0)), []⟩,
    ⟨(some 28), none, .q (.nc (.t 27)), []⟩,
    ⟨(some 29), none, .q (.fa 0 (.t 28)), []⟩,
    ⟨(some 30), none, .q (.ld none (.t 29)), []⟩,
    ⟨(some 31), none, .q (.mv (.t 0)), []⟩,
    ⟨(some 32), none, .q (.nc (.t 31)), []⟩,
    ⟨(some 33), none, .q (.fa 1 (.t 32)), []⟩,
    ⟨(some 34), none, .q (.ld none (.t 33)), []⟩,
    ⟨(some 35), none, .q (.mv (.t 4)), []⟩,
    ⟨(some 36), none, .q (.bin .add (.t 34) (.t 35)), []⟩,
    ⟨(some 37), none, .q (.idx (.t 30) (.t 36)), []⟩,
    ⟨(some 5), none, .q (.mv (.t 37)), []⟩]
def c71_12 : ACode := .ops [
    ⟨(some 38), none, .q (.mv (.t 4)), []⟩,
    ⟨(some 39), none, .q (.bin .eql (.t 38) (.v (.int .i64 9))), []⟩,
    ⟨(some 40), none, .q (.mv (.t 39)), []⟩,
    ⟨(some 41), (some (40, true)), .q (.mv (.t 5)), []⟩,
    ⟨(some 42), (some (40, true)), .q (.bin .gtr (.t 41) (.v (.int .u8 1))), []⟩,
    ⟨(some 43), none, .q (.pick (.t 40) (.t 42) (.v (.bool false))), []⟩,
    ⟨(some 44), none, .q (.mv (.t 43)), []⟩,
    ⟨(some 45), (some (44, false)), .q (.mv (.t 4)), []⟩,
    ⟨(some 46), (some (44, false)), .q (.bin .gtr (.t 45) (.v (.int .i64 0))), []⟩,
    ⟨(some 47), (some (44, false)), .q (.mv (.t 46)), []⟩,
    ⟨(some 48), (some (47, true)), .q (.mv (.t 5)), []⟩,
    ⟨(some 49), (some (47, true)), .q (.bin .eql (.t 48) (.v (.int .u8 0))), []⟩,
    ⟨(some 50), (some (44, false)), .q (.pick (.t 47) (.t 49) (.v (.bool false))), []⟩,
    ⟨(some 51), none, .q (.pick (.t 44) (.v (.bool true)) (.t 50)), []⟩]
def c71_13 : ACode := .ops [
    ⟨(some 52), none, .q (.mv (.t 0)), []⟩,
    ⟨(some 53), none, .e (.call 53 [(.t 52), (.v (.int .i64 3))]), []⟩]
def c71_14 : ACode := .seq c71_13 (.exit 0)
def c71_15 : ACode := .cond (.t 51) c71_14 .skip
def c71_16 : ACode := .seq c71_12 c71_15
def c71_17 : ACode := .ops [
    ⟨(some 54), none, .q (.mv (.t 3)), []⟩,
    ⟨(some 55), none, .q (.mv (.t 5)), []⟩,
    ⟨(some 56), none, .q (.bin .and (.t 55) (.v (.int .u8 127))), []⟩,
    ⟨(some 57), none, .q (.conv .u64 (.t 56)), []⟩,
    ⟨(some 58), none, .q (.mv (.t 4)), []⟩,
    ⟨(some 59), none, .q (.bin .mul (.v (.int .i64 7)) (.t 58)), []⟩,
    ⟨(some 60), none, .q (.bin .shl (.t 57) (.t 59)), []⟩,
    ⟨(some 61), none, .q (.bin .or (.t 54) (.t 60)), []⟩,
    ⟨(some 3), none, .q (.mv (.t 61)), []⟩]
def c71_18 : ACode := .ops [
    ⟨(some 62), none, .q (.mv (.t 5)), []⟩,
    ⟨(some 63), none, .q (.bin .lss (.t 62) (.v (.int .u8 128))), []⟩]
def c71_19 : ACode := .ops [
    ⟨(some 64), none, .q (.mv (.t 0)), []⟩,
    ⟨(some 65), none, .q (.nc (.t 64)), []⟩,
    ⟨(some 66), none, .q (.fa 1 (.t 65)), []⟩,
    ⟨(some 67), none, .q (.ld none (.t 66)), []⟩,
    ⟨(some 68), none, .q (.mv (.t 4)), []⟩,
    ⟨(some 69), none, .q (.bin .add (.t 68) (.v (.int .i64 1))), []⟩,
    ⟨(some 70), none, .q (.bin .add (.t 67) (.t 69)), []⟩,
    ⟨(some 71), none, .q (.nc (.t 64)), []⟩,
    ⟨(some 72), none, .q (.fa 1 (.t 71)), []⟩,
    ⟨none, none, .e (.store 1 (.t 72) (.t 70)), []⟩]
def c71_20 : ACode := .ops [
    ⟨(some 73), none, .q (.mv (.t 3)), []⟩,
    ⟨(some 2), none, .q (.mv (.t 73)), []⟩]
def c71_21 : ACode := .seq c71_20 .ret
def c71_22 : ACode := .seq c71_19 c71_21
def c71_23 : ACode := .cond (.t 63) c71_22 .skip
def c71_24 : ACode := .seq c71_18 c71_23
def c71_25 : ACode := .seq c71_17 c71_24
def c71_26 : ACode := .seq c71_16 c71_25
def c71_27 : ACode := .seq c71_11 c71_26
def c71_28 : ACode := .seq c71_10 c71_27
def c71_29 : ACode := .block 1 c71_28
def c71_30 : ACode := .ops [
    ⟨(some 11), none, .q (.mv (.t 4)), []⟩,
    ⟨(some 12), none, .q (.bin .add (.t 11) (.v (.int .i64 1))), []⟩,
    ⟨(some 4), none, .q (.mv (.t 12)), []⟩]
def c71_31 : ACode := .seq c71_29 c71_30
def c71_32 : ACode := .seq c71_5 c71_31
def c71_33 : ACode := .loop c71_32
def c71_34 : ACode := .block 0 c71_33
def c71_35 : ACode := .seq c71_2 c71_34
def c71_36 : ACode := .ops [
    ⟨(some 2), none, .q (.mv (.v (.int .u64 0))), []⟩]
def c71_37 : ACode := .seq c71_36 .ret
def c71_38 : ACode := .seq c71_35 c71_37
def c71_39 : ACode := .seq c71_1 c71_38
def c71_40 : ACode := .seq c71_0 c71_39
@[go_sem] theorem c71_0_wp : type_of% (wp_of c71_0.eq_1) := wp_of c71_0.eq_1
@[go_sem] theorem c71_1_wp : type_of% (wp_of c71_1.eq_1) := wp_of c71_1.eq_1
@[go_sem] theorem c71_2_wp : type_of% (wp_of c71_2.eq_1) := wp_of c71_2.eq_1
@[go_sem] theorem c71_3_wp : type_of% (wp_of c71_3.eq_1) := wp_of c71_3.eq_1
@[go_sem] theorem c71_4_wp : type_of% (wp_of c71_4.eq_1) := wp_of c71_4.eq_1
@[go_sem] theorem c71_5_wp : type_of% (wp_of c71_5.eq_1) := wp_of c71_5.eq_1
@[go_sem] theorem c71_6_wp : type_of% (wp_of c71_6.eq_1) := wp_of c71_6.eq_1
@[go_sem] theorem c71_7_wp : type_of% (wp_of c71_7.eq_1) := wp_of c71_7.eq_1
@[go_sem] theorem c71_8_wp : type_of% (wp_of c71_8.eq_1) := wp_of c71_8.eq_1
@[go_sem] theorem c71_9_wp : type_of% (wp_of c71_9.eq_1) := wp_of c71_9.eq_1
@[go_sem] theorem c71_10_wp : type_of% (wp_of c71_10.eq_1) := wp_of c71_10.eq_1
@[go_sem] theorem c71_11_wp : type_of% (wp_of c71_11.eq_1) := wp_of c71_11.eq_1
@[go_sem] theorem c71_12_wp : type_of% (wp_of c71_12.eq_1) := wp_of c71_12.eq_1
@[go_sem] theorem c71_13_wp : type_of% (wp_of c71_13.eq_1) := wp_of c71_13.eq_1
@[go_sem] theorem c71_14_wp : type_of% (wp_of c71_14.eq_1) := wp_of c71_14.eq_1
@[go_sem] theorem c71_15_wp : type_of% (wp_of c71_15.eq_1) := wp_of c71_15.eq_1
@[go_sem] theorem c71_16_wp : type_of% (wp_of c71_16.eq_1) := wp_of c71_16.eq_1
@[go_sem] theorem c71_17_wp : type_of% (wp_of c71_17.eq_1) := wp_of c71_17.eq_1
@[go_sem] theorem c71_18_wp : type_of% (wp_of c71_18.eq_1) := wp_of c71_18.eq_1
@[go_sem] theorem c71_19_wp : type_of% (wp_of c71_19.eq_1) := wp_of c71_19.eq_1
@[go_sem] theorem c71_20_wp : type_of% (wp_of c71_20.eq_1) := wp_of c71_20.eq_1
@[go_sem] theorem c71_21_wp : type_of% (wp_of c71_21.eq_1) := wp_of c71_21.eq_1
@[go_sem] theorem c71_22_wp : type_of% (wp_of c71_22.eq_1) := wp_of c71_22.eq_1
@[go_sem] theorem c71_23_wp : type_of% (wp_of c71_23.eq_1) := wp_of c71_23.eq_1
@[go_sem] theorem c71_24_wp : type_of% (wp_of c71_24.eq_1) := wp_of c71_24.eq_1
@[go_sem] theorem c71_25_wp : type_of% (wp_of c71_25.eq_1) := wp_of c71_25.eq_1
@[go_sem] theorem c71_26_wp : type_of% (wp_of c71_26.eq_1) := wp_of c71_26.eq_1
@[go_sem] theorem c71_27_wp : type_of% (wp_of c71_27.eq_1) := wp_of c71_27.eq_1
@[go_sem] theorem c71_28_wp : type_of% (wp_of c71_28.eq_1) := wp_of c71_28.eq_1
@[go_sem] theorem c71_29_wp : type_of% (wp_of c71_29.eq_1) := wp_of c71_29.eq_1
@[go_sem] theorem c71_30_wp : type_of% (wp_of c71_30.eq_1) := wp_of c71_30.eq_1
@[go_sem] theorem c71_31_wp : type_of% (wp_of c71_31.eq_1) := wp_of c71_31.eq_1
@[go_sem] theorem c71_32_wp : type_of% (wp_of c71_32.eq_1) := wp_of c71_32.eq_1
@[go_sem] theorem c71_33_wp : type_of% (wp_of c71_33.eq_1) := wp_of c71_33.eq_1
@[go_sem] theorem c71_34_wp : type_of% (wp_of c71_34.eq_1) := wp_of c71_34.eq_1
@[go_sem] theorem c71_35_wp : type_of% (wp_of c71_35.eq_1) := wp_of c71_35.eq_1
@[go_sem] theorem c71_36_wp : type_of% (wp_of c71_36.eq_1) := wp_of c71_36.eq_1
@[go_sem] theorem c71_37_wp : type_of% (wp_of c71_37.eq_1) := wp_of c71_37.eq_1
@[go_sem] theorem c71_38_wp : type_of% (wp_of c71_38.eq_1) := wp_of c71_38.eq_1
@[go_sem] theorem c71_39_wp : type_of% (wp_of c71_39.eq_1) := wp_of c71_39.eq_1
@[go_sem] theorem c71_40_wp : type_of% (wp_of c71_40.eq_1) := wp_of c71_40.eq_1
def c71 : AFn := ⟨74, [.t 2], c71_40⟩
set_option maxRecDepth 100000 in
theorem c71_ok : compF Tryz.prog Tryz.f71 = some c71 := by kernel_rfl
theorem a71 {args : List AV} {σ : ASt} {R : AV → ASt → Prop} (hl : args.length ≤ 74) (h : c71_40.wp Tryz.prog (RetQ [.t 2] R) (init args) σ) : ACalls Tryz.prog 71 args σ R := acalls_of Tryz.func71 c71_ok hl h
/-! 72: (*tabular/vint.Reader).Err -/
def c72_0 : ACode := .ops [
    ⟨(some 2), none, .q (.mv (.v (.int .i64 0))), []⟩]
def c72_1 : ACode := .ops [
    ⟨(some 3), none, .q (.mv (.t 0)), []⟩,
    ⟨(some 4), none, .q (.nc (.t 3)), []⟩,
    ⟨(some 5), none, .q (.fa 2 (.t 4)), []⟩,
    ⟨(some 6), none, .q (.ld none (.t 5)), []⟩,
    ⟨(some 2), none, .q (.mv (.t 6)), []⟩]
def c72_2 : ACode := .seq c72_1 .ret
def c72_3 : ACode := .seq c72_0 c72_2
@[go_sem] theorem c72_0_wp : type_of% (wp_of c72_0.eq_1) := wp_of c72_0.eq_1
@[go_sem] theorem c72_1_wp : type_of% (wp_of c72_1.eq_1) := wp_of c72_1.eq_1
@[go_sem] theorem c72_2_wp : type_of% (wp_of c72_2.eq_1) := wp_of c72_2.eq_1
@[go_sem] theorem c72_3_wp : type_of% (wp_of c72_3.eq_1) := wp_of c72_3.eq_1
def c72 : AFn := ⟨7, [.t 2], c72_3⟩
set_option maxRecDepth 100000 in
theorem c72_ok : compF Tryz.prog Tryz.f72 = some c72 := by kernel_rfl
theorem a72 {args : List AV} {σ : ASt} {R : AV → ASt → Prop} (hl : args.length ≤ 7) (h : c72_3.wp Tryz.prog (RetQ [.t 2] R) (init args) σ) : ACalls Tryz.prog 72 args σ R := acalls_of Tryz.func72 c72_ok hl h
end Go.A
