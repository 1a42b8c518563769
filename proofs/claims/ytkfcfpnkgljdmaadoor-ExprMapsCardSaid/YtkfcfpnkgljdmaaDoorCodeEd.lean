/- The functions, compiled: by program (wip/gencode.py). -/
import Derived.Test.YtkfcfpnkgljdmaaDoorBk
import Derived.Test.YtkfcfpnkgljdmaaDoorProg
import Derived.KernelRfl
namespace Go.A
open Go.Proofs

/-! 18: tabular/expr.spell -/
def c18_0 : ACode := .ops [
    ⟨(some 3), none, .e (.box (.t 1)), []⟩]
def c18_1 : ACode := .ops [
    ⟨(some 7), none, .q (.fa 0 (.t 3)), []⟩,
    ⟨(some 8), none, .q (.ld none (.t 7)), []⟩]
def c18_2 : ACode := .ops [
    ⟨(some 36), none, .q (.bin .eql (.t 8) (.v (.int .i64 1))), []⟩,
    ⟨(some 35), none, .q (.mv (.t 36)), []⟩]
def c18_3 : ACode := .ops [
    ⟨(some 37), none, .q (.mv (.t 0)), []⟩,
    ⟨(some 38), none, .q (.fa 1 (.t 3)), []⟩,
    ⟨(some 39), none, .q (.ld none (.t 38)), []⟩,
    ⟨(some 40), none, .e (.call 24 [(.t 39)]), []⟩,
    ⟨(some 41), none, .e (.call 23 [(.t 37), (.t 40)]), []⟩]
def c18_4 : ACode := .ops [
    ⟨(some 43), none, .q (.bin .eql (.t 8) (.v (.int .i64 2))), []⟩,
    ⟨(some 42), none, .q (.mv (.t 43)), []⟩]
def c18_5 : ACode := .ops [
    ⟨(some 44), none, .q (.mv (.t 0)), []⟩,
    ⟨(some 45), none, .q (.fa 2 (.t 3)), []⟩,
    ⟨(some 46), none, .q (.ld none (.t 45)), []⟩,
    ⟨(some 47), none, .e (.call 25 [(.t 46)]), []⟩,
    ⟨(some 48), none, .e (.call 23 [(.t 44), (.t 47)]), []⟩]
def c18_6 : ACode := .ops [
    ⟨(some 50), none, .q (.bin .eql (.t 8) (.v (.int .i64 3))), []⟩,
    ⟨(some 49), none, .q (.mv (.t 50)), []⟩]
def c18_7 : ACode := .ops [
    ⟨(some 51), none, .q (.mv (.t 0)), []⟩,
    ⟨(some 52), none, .q (.fa 1 (.t 3)), []⟩,
    ⟨(some 53), none, .q (.ld none (.t 52)), []⟩,
    ⟨(some 54), none, .q (.bin .neq (.t 53) (.v (.int .i64 0))), []⟩,
    ⟨(some 55), none, .e (.call 26 [(.t 54)]), []⟩,
    ⟨(some 56), none, .e (.call 23 [(.t 51), (.t 55)]), []⟩]
def c18_8 : ACode := .ops [
    ⟨(some 58), none, .q (.bin .eql (.t 8) (.v (.int .i64 4))), []⟩,
    ⟨(some 57), none, .q (.mv (.t 58)), []⟩]
def c18_9 : ACode := .ops [
    ⟨(some 59), none, .q (.mv (.t 0)), []⟩,
    ⟨(some 60), none, .q (.ld (some 12) (.t 3)), []⟩,
    ⟨(some 61), none, .e (.call 27 [(.t 60)]), []⟩,
    ⟨(some 62), none, .e (.call 23 [(.t 59), (.t 61)]), []⟩]
def c18_10 : ACode := .ops [
    ⟨(some 64), none, .q (.bin .eql (.t 8) (.v (.int .i64 5))), []⟩,
    ⟨(some 63), none, .q (.mv (.t 64)), []⟩]
def c18_11 : ACode := .ops [
    ⟨(some 65), none, .q (.mv (.t 0)), []⟩,
    ⟨(some 66), none, .q (.fa 3 (.t 3)), []⟩,
    ⟨(some 67), none, .q (.ld (some 4) (.t 66)), []⟩,
    ⟨(some 68), none, .e (.call 28 [(.t 67)]), []⟩,
    ⟨(some 69), none, .e (.call 23 [(.t 65), (.t 68)]), []⟩]
def c18_12 : ACode := .ops [
    ⟨(some 71), none, .q (.bin .eql (.t 8) (.v (.int .i64 6))), []⟩,
    ⟨(some 70), none, .q (.mv (.t 71)), []⟩]
def c18_13 : ACode := .ops [
    ⟨(some 72), none, .q (.mv (.t 0)), []⟩,
    ⟨(some 73), none, .q (.fa 3 (.t 3)), []⟩,
    ⟨(some 74), none, .q (.ld (some 4) (.t 73)), []⟩,
    ⟨(some 75), none, .q (.fa 7 (.t 3)), []⟩,
    ⟨(some 76), none, .q (.ld (some 4) (.t 75)), []⟩,
    ⟨(some 77), none, .q (.build [(.int .i64 0), (.int .i64 0), (.bool false), (.bool false), (.int .i64 0), (.int .i64 0), (.bool false), (.bool false)] [(0, 4, (.t 74)), (4, 4, (.t 76))]), []⟩,
    ⟨(some 78), none, .e (.call 29 [(.t 77)]), []⟩,
    ⟨(some 79), none, .e (.call 23 [(.t 72), (.t 78)]), []⟩]
def c18_14 : ACode := .ops [
    ⟨(some 81), none, .q (.bin .eql (.t 8) (.v (.int .i64 7))), []⟩,
    ⟨(some 80), none, .q (.mv (.t 81)), []⟩]
def c18_15 : ACode := .ops [
    ⟨(some 82), none, .q (.bin .eql (.t 8) (.v (.int .i64 8))), []⟩,
    ⟨(some 80), none, .q (.mv (.t 82)), []⟩]
def c18_16 : ACode := .cond (.t 80) .skip c18_15
def c18_17 : ACode := .seq c18_14 c18_16
def c18_18 : ACode := .ops [
    ⟨(some 83), none, .q (.mv (.t 0)), []⟩,
    ⟨(some 84), none, .q (.fa 0 (.t 3)), []⟩,
    ⟨(some 85), none, .q (.ld none (.t 84)), []⟩,
    ⟨(some 86), none, .q (.bin .sub (.t 85) (.v (.int .i64 7))), []⟩,
    ⟨(some 87), none, .q (.idx (.v (.str [45, 43])) (.t 86)), []⟩,
    ⟨(some 88), none, .e (.call 30 [(.t 83), (.t 87)]), []⟩]
def c18_19 : ACode := .ops [
    ⟨(some 89), none, .q (.mv (.t 0)), []⟩,
    ⟨(some 90), none, .q (.fa 11 (.t 3)), []⟩,
    ⟨(some 91), none, .q (.ld none (.t 90)), []⟩,
    ⟨(some 92), none, .q (.ia 12 (.t 91) (.v (.int .i64 0))), []⟩,
    ⟨(some 93), none, .q (.ld (some 12) (.t 92)), []⟩,
    ⟨(some 94), none, .e (.call 31 [(.t 89), (.t 93), (.v (.int .i64 6))]), []⟩]
def c18_20 : ACode := .seq c18_18 c18_19
def c18_21 : ACode := .ops [
    ⟨(some 96), none, .q (.bin .eql (.t 8) (.v (.int .i64 9))), []⟩,
    ⟨(some 95), none, .q (.mv (.t 96)), []⟩]
def c18_22 : ACode := .ops [
    ⟨(some 97), none, .q (.mv (.t 0)), []⟩,
    ⟨(some 98), none, .q (.fa 11 (.t 3)), []⟩,
    ⟨(some 99), none, .q (.ld none (.t 98)), []⟩,
    ⟨(some 100), none, .q (.ia 12 (.t 99) (.v (.int .i64 0))), []⟩,
    ⟨(some 101), none, .q (.ld (some 12) (.t 100)), []⟩,
    ⟨(some 102), none, .e (.call 31 [(.t 97), (.t 101), (.v (.int .i64 7))]), []⟩]
def c18_23 : ACode := .ops [
    ⟨(some 103), none, .q (.mv (.t 0)), []⟩,
    ⟨(some 104), none, .e (.call 30 [(.t 103), (.v (.int .u8 37))]), []⟩]
def c18_24 : ACode := .seq c18_22 c18_23
def c18_25 : ACode := .ops [
    ⟨(some 106), none, .q (.bin .eql (.t 8) (.v (.int .i64 22))), []⟩,
    ⟨(some 105), none, .q (.mv (.t 106)), []⟩]
def c18_26 : ACode := .ops [
    ⟨(some 107), none, .q (.mv (.t 0)), []⟩,
    ⟨(some 108), none, .q (.fa 2 (.t 3)), []⟩,
    ⟨(some 109), none, .q (.ld none (.t 108)), []⟩,
    ⟨(some 110), none, .e (.call 23 [(.t 107), (.t 109)]), []⟩]
def c18_27 : ACode := .ops [
    ⟨(some 111), none, .q (.mv (.t 0)), []⟩,
    ⟨(some 112), none, .e (.call 30 [(.t 111), (.v (.int .u8 40))]), []⟩]
def c18_28 : ACode := .ops [
    ⟨(some 113), none, .q (.fa 11 (.t 3)), []⟩,
    ⟨(some 114), none, .q (.ld none (.t 113)), []⟩,
    ⟨(some 115), none, .q (.len (.t 114)), []⟩,
    ⟨(some 116), none, .q (.mv (.v (.int .i64 0))), []⟩]
def c18_29 : ACode := .ops [
    ⟨(some 117), none, .q (.bin .lss (.t 116) (.t 115)), []⟩]
def c18_30 : ACode := .cond (.t 117) .skip (.exit 1)
def c18_31 : ACode := .ops [
    ⟨(some 118), none, .q (.mv (.t 116)), []⟩,
    ⟨(some 119), none, .q (.ia 12 (.t 114) (.t 116)), []⟩,
    ⟨(some 120), none, .q (.ld (some 12) (.t 119)), []⟩,
    ⟨(some 5), none, .e (.alloc [(.int .i64 0), (.int .i64 0), (.str []), (.int .i64 0), (.int .i64 0), (.bool false), (.bool false), (.int .i64 0), (.int .i64 0), (.bool false), (.bool false), (.sl .full [])]), []⟩,
    ⟨(some 4), none, .q (.mv (.t 118)), []⟩,
    ⟨none, none, .e (.store 12 (.t 5) (.t 120)), []⟩]
def c18_32 : ACode := .ops [
    ⟨(some 121), none, .q (.mv (.t 4)), []⟩,
    ⟨(some 122), none, .q (.bin .gtr (.t 121) (.v (.int .i64 0))), []⟩]
def c18_33 : ACode := .ops [
    ⟨(some 123), none, .q (.mv (.t 0)), []⟩,
    ⟨(some 124), none, .e (.call 30 [(.t 123), (.v (.int .u8 44))]), []⟩]
def c18_34 : ACode := .cond (.t 122) c18_33 .skip
def c18_35 : ACode := .seq c18_32 c18_34
def c18_36 : ACode := .ops [
    ⟨(some 125), none, .q (.mv (.t 0)), []⟩,
    ⟨(some 126), none, .q (.ld (some 12) (.t 5)), []⟩,
    ⟨(some 127), none, .e (.call 18 [(.t 125), (.t 126)]), []⟩]
def c18_37 : ACode := .seq c18_35 c18_36
def c18_38 : ACode := .seq c18_31 c18_37
def c18_39 : ACode := .block 2 c18_38
def c18_40 : ACode := .ops [
    ⟨(some 128), none, .q (.bin .add (.t 116) (.v (.int .i64 1))), []⟩,
    ⟨(some 116), none, .q (.mv (.t 128)), []⟩]
def c18_41 : ACode := .seq c18_39 c18_40
def c18_42 : ACode := .seq c18_30 c18_41
def c18_43 : ACode := .seq c18_29 c18_42
def c18_44 : ACode := .loop c18_43
def c18_45 : ACode := .block 1 c18_44
def c18_46 : ACode := .seq c18_28 c18_45
def c18_47 : ACode := .ops [
    ⟨(some 129), none, .q (.mv (.t 0)), []⟩,
    ⟨(some 130), none, .e (.call 30 [(.t 129), (.v (.int .u8 41))]), []⟩]
def c18_48 : ACode := .seq c18_46 c18_47
def c18_49 : ACode := .seq c18_27 c18_48
def c18_50 : ACode := .seq c18_26 c18_49
def c18_51 : ACode := .ops [
    ⟨(some 132), none, .q (.bin .eql (.t 8) (.v (.int .i64 23))), []⟩,
    ⟨(some 131), none, .q (.mv (.t 132)), []⟩]
def c18_52 : ACode := .ops [
    ⟨(some 9), none, .q (.fa 0 (.t 3)), []⟩,
    ⟨(some 10), none, .q (.ld none (.t 9)), []⟩,
    ⟨(some 11), none, .e (.call 32 [(.t 10)]), []⟩,
    ⟨(some 6), none, .q (.mv (.t 11)), []⟩]
def c18_53 : ACode := .ops [
    ⟨(some 12), none, .q (.mv (.t 0)), []⟩,
    ⟨(some 13), none, .q (.fa 11 (.t 3)), []⟩,
    ⟨(some 14), none, .q (.ld none (.t 13)), []⟩,
    ⟨(some 15), none, .q (.ia 12 (.t 14) (.v (.int .i64 0))), []⟩,
    ⟨(some 16), none, .q (.ld (some 12) (.t 15)), []⟩,
    ⟨(some 17), none, .q (.mv (.t 6)), []⟩,
    ⟨(some 18), none, .e (.call 31 [(.t 12), (.t 16), (.t 17)]), []⟩]
def c18_54 : ACode := .ops [
    ⟨(some 19), none, .q (.mv (.t 0)), []⟩,
    ⟨(some 21), none, .q (.fa 0 (.t 3)), []⟩,
    ⟨(some 22), none, .q (.ld none (.t 21)), []⟩,
    ⟨(some 23), none, .q (.bin .sub (.t 22) (.v (.int .i64 10))), []⟩,
    ⟨(some 20), none, .e (.call 33 []), [⟨none, .ld none (.t 21), 22⟩]⟩,
    ⟨(some 24), none, .q (.ia 1 (.t 20) (.t 23)), []⟩,
    ⟨(some 25), none, .q (.ld none (.t 24)), []⟩,
    ⟨(some 26), none, .e (.call 23 [(.t 19), (.t 25)]), []⟩]
def c18_55 : ACode := .ops [
    ⟨(some 27), none, .q (.mv (.t 0)), []⟩,
    ⟨(some 28), none, .q (.fa 11 (.t 3)), []⟩,
    ⟨(some 29), none, .q (.ld none (.t 28)), []⟩,
    ⟨(some 30), none, .q (.ia 12 (.t 29) (.v (.int .i64 1))), []⟩,
    ⟨(some 31), none, .q (.ld (some 12) (.t 30)), []⟩,
    ⟨(some 32), none, .q (.mv (.t 6)), []⟩,
    ⟨(some 33), none, .q (.bin .add (.t 32) (.v (.int .i64 1))), []⟩,
    ⟨(some 34), none, .e (.call 31 [(.t 27), (.t 31), (.t 33)]), []⟩]
def c18_56 : ACode := .seq c18_54 c18_55
def c18_57 : ACode := .seq c18_53 c18_56
def c18_58 : ACode := .seq c18_52 c18_57
def c18_59 : ACode := .cond (.t 131) .skip c18_58
def c18_60 : ACode := .seq c18_51 c18_59
def c18_61 : ACode := .cond (.t 105) c18_50 c18_60
def c18_62 : ACode := .seq c18_25 c18_61
def c18_63 : ACode := .cond (.t 95) c18_24 c18_62
def c18_64 : ACode := .seq c18_21 c18_63
def c18_65 : ACode := .cond (.t 80) c18_20 c18_64
def c18_66 : ACode := .seq c18_17 c18_65
def c18_67 : ACode := .cond (.t 70) c18_13 c18_66
def c18_68 : ACode := .seq c18_12 c18_67
def c18_69 : ACode := .cond (.t 63) c18_11 c18_68
def c18_70 : ACode := .seq c18_10 c18_69
def c18_71 : ACode := .cond (.t 57) c18_9 c18_70
def c18_72 : ACode := .seq c18_8 c18_71
def c18_73 : ACode := .cond (.t 49) c18_7 c18_72
def c18_74 : ACode := .seq c18_6 c18_73
def c18_75 : ACode := .cond (.t 42) c18_5 c18_74
def c18_76 : ACode := .seq c18_4 c18_75
def c18_77 : ACode := .cond (.t 35) c18_3 c18_76
def c18_78 : ACode := .seq c18_2 c18_77
def c18_79 : ACode := .block 0 c18_78
def c18_80 : ACode := .seq c18_1 c18_79
def c18_81 : ACode := .seq c18_0 c18_80
@[go_sem] theorem c18_0_wp : type_of% (wp_of c18_0.eq_1) := wp_of c18_0.eq_1
@[go_sem] theorem c18_1_wp : type_of% (wp_of c18_1.eq_1) := wp_of c18_1.eq_1
@[go_sem] theorem c18_2_wp : type_of% (wp_of c18_2.eq_1) := wp_of c18_2.eq_1
@[go_sem] theorem c18_3_wp : type_of% (wp_of c18_3.eq_1) := wp_of c18_3.eq_1
@[go_sem] theorem c18_4_wp : type_of% (wp_of c18_4.eq_1) := wp_of c18_4.eq_1
@[go_sem] theorem c18_5_wp : type_of% (wp_of c18_5.eq_1) := wp_of c18_5.eq_1
@[go_sem] theorem c18_6_wp : type_of% (wp_of c18_6.eq_1) := wp_of c18_6.eq_1
@[go_sem] theorem c18_7_wp : type_of% (wp_of c18_7.eq_1) := wp_of c18_7.eq_1
@[go_sem] theorem c18_8_wp : type_of% (wp_of c18_8.eq_1) := wp_of c18_8.eq_1
@[go_sem] theorem c18_9_wp : type_of% (wp_of c18_9.eq_1) := wp_of c18_9.eq_1
@[go_sem] theorem c18_10_wp : type_of% (wp_of c18_10.eq_1) := wp_of c18_10.eq_1
@[go_sem] theorem c18_11_wp : type_of% (wp_of c18_11.eq_1) := wp_of c18_11.eq_1
@[go_sem] theorem c18_12_wp : type_of% (wp_of c18_12.eq_1) := wp_of c18_12.eq_1
@[go_sem] theorem c18_13_wp : type_of% (wp_of c18_13.eq_1) := wp_of c18_13.eq_1
@[go_sem] theorem c18_14_wp : type_of% (wp_of c18_14.eq_1) := wp_of c18_14.eq_1
@[go_sem] theorem c18_15_wp : type_of% (wp_of c18_15.eq_1) := wp_of c18_15.eq_1
@[go_sem] theorem c18_16_wp : type_of% (wp_of c18_16.eq_1) := wp_of c18_16.eq_1
@[go_sem] theorem c18_17_wp : type_of% (wp_of c18_17.eq_1) := wp_of c18_17.eq_1
@[go_sem] theorem c18_18_wp : type_of% (wp_of c18_18.eq_1) := wp_of c18_18.eq_1
@[go_sem] theorem c18_19_wp : type_of% (wp_of c18_19.eq_1) := wp_of c18_19.eq_1
@[go_sem] theorem c18_20_wp : type_of% (wp_of c18_20.eq_1) := wp_of c18_20.eq_1
@[go_sem] theorem c18_21_wp : type_of% (wp_of c18_21.eq_1) := wp_of c18_21.eq_1
@[go_sem] theorem c18_22_wp : type_of% (wp_of c18_22.eq_1) := wp_of c18_22.eq_1
@[go_sem] theorem c18_23_wp : type_of% (wp_of c18_23.eq_1) := wp_of c18_23.eq_1
@[go_sem] theorem c18_24_wp : type_of% (wp_of c18_24.eq_1) := wp_of c18_24.eq_1
@[go_sem] theorem c18_25_wp : type_of% (wp_of c18_25.eq_1) := wp_of c18_25.eq_1
@[go_sem] theorem c18_26_wp : type_of% (wp_of c18_26.eq_1) := wp_of c18_26.eq_1
@[go_sem] theorem c18_27_wp : type_of% (wp_of c18_27.eq_1) := wp_of c18_27.eq_1
@[go_sem] theorem c18_28_wp : type_of% (wp_of c18_28.eq_1) := wp_of c18_28.eq_1
@[go_sem] theorem c18_29_wp : type_of% (wp_of c18_29.eq_1) := wp_of c18_29.eq_1
@[go_sem] theorem c18_30_wp : type_of% (wp_of c18_30.eq_1) := wp_of c18_30.eq_1
@[go_sem] theorem c18_31_wp : type_of% (wp_of c18_31.eq_1) := wp_of c18_31.eq_1
@[go_sem] theorem c18_32_wp : type_of% (wp_of c18_32.eq_1) := wp_of c18_32.eq_1
@[go_sem] theorem c18_33_wp : type_of% (wp_of c18_33.eq_1) := wp_of c18_33.eq_1
@[go_sem] theorem c18_34_wp : type_of% (wp_of c18_34.eq_1) := wp_of c18_34.eq_1
@[go_sem] theorem c18_35_wp : type_of% (wp_of c18_35.eq_1) := wp_of c18_35.eq_1
@[go_sem] theorem c18_36_wp : type_of% (wp_of c18_36.eq_1) := wp_of c18_36.eq_1
@[go_sem] theorem c18_37_wp : type_of% (wp_of c18_37.eq_1) := wp_of c18_37.eq_1
@[go_sem] theorem c18_38_wp : type_of% (wp_of c18_38.eq_1) := wp_of c18_38.eq_1
@[go_sem] theorem c18_39_wp : type_of% (wp_of c18_39.eq_1) := wp_of c18_39.eq_1
@[go_sem] theorem c18_40_wp : type_of% (wp_of c18_40.eq_1) := wp_of c18_40.eq_1
@[go_sem] theorem c18_41_wp : type_of% (wp_of c18_41.eq_1) := wp_of c18_41.eq_1
@[go_sem] theorem c18_42_wp : type_of% (wp_of c18_42.eq_1) := wp_of c18_42.eq_1
@[go_sem] theorem c18_43_wp : type_of% (wp_of c18_43.eq_1) := wp_of c18_43.eq_1
@[go_sem] theorem c18_44_wp : type_of% (wp_of c18_44.eq_1) := wp_of c18_44.eq_1
@[go_sem] theorem c18_45_wp : type_of% (wp_of c18_45.eq_1) := wp_of c18_45.eq_1
@[go_sem] theorem c18_46_wp : type_of% (wp_of c18_46.eq_1) := wp_of c18_46.eq_1
@[go_sem] theorem c18_47_wp : type_of% (wp_of c18_47.eq_1) := wp_of c18_47.eq_1
@[go_sem] theorem c18_48_wp : type_of% (wp_of c18_48.eq_1) := wp_of c18_48.eq_1
@[go_sem] theorem c18_49_wp : type_of% (wp_of c18_49.eq_1) := wp_of c18_49.eq_1
@[go_sem] theorem c18_50_wp : type_of% (wp_of c18_50.eq_1) := wp_of c18_50.eq_1
@[go_sem] theorem c18_51_wp : type_of% (wp_of c18_51.eq_1) := wp_of c18_51.eq_1
@[go_sem] theorem c18_52_wp : type_of% (wp_of c18_52.eq_1) := wp_of c18_52.eq_1
@[go_sem] theorem c18_53_wp : type_of% (wp_of c18_53.eq_1) := wp_of c18_53.eq_1
@[go_sem] theorem c18_54_wp : type_of% (wp_of c18_54.eq_1) := wp_of c18_54.eq_1
@[go_sem] theorem c18_55_wp : type_of% (wp_of c18_55.eq_1) := wp_of c18_55.eq_1
@[go_sem] theorem c18_56_wp : type_of% (wp_of c18_56.eq_1) := wp_of c18_56.eq_1
@[go_sem] theorem c18_57_wp : type_of% (wp_of c18_57.eq_1) := wp_of c18_57.eq_1
@[go_sem] theorem c18_58_wp : type_of% (wp_of c18_58.eq_1) := wp_of c18_58.eq_1
@[go_sem] theorem c18_59_wp : type_of% (wp_of c18_59.eq_1) := wp_of c18_59.eq_1
@[go_sem] theorem c18_60_wp : type_of% (wp_of c18_60.eq_1) := wp_of c18_60.eq_1
@[go_sem] theorem c18_61_wp : type_of% (wp_of c18_61.eq_1) := wp_of c18_61.eq_1
@[go_sem] theorem c18_62_wp : type_of% (wp_of c18_62.eq_1) := wp_of c18_62.eq_1
@[go_sem] theorem c18_63_wp : type_of% (wp_of c18_63.eq_1) := wp_of c18_63.eq_1
@[go_sem] theorem c18_64_wp : type_of% (wp_of c18_64.eq_1) := wp_of c18_64.eq_1
@[go_sem] theorem c18_65_wp : type_of% (wp_of c18_65.eq_1) := wp_of c18_65.eq_1
@[go_sem] theorem c18_66_wp : type_of% (wp_of c18_66.eq_1) := wp_of c18_66.eq_1
@[go_sem] theorem c18_67_wp : type_of% (wp_of c18_67.eq_1) := wp_of c18_67.eq_1
@[go_sem] theorem c18_68_wp : type_of% (wp_of c18_68.eq_1) := wp_of c18_68.eq_1
@[go_sem] theorem c18_69_wp : type_of% (wp_of c18_69.eq_1) := wp_of c18_69.eq_1
@[go_sem] theorem c18_70_wp : type_of% (wp_of c18_70.eq_1) := wp_of c18_70.eq_1
@[go_sem] theorem c18_71_wp : type_of% (wp_of c18_71.eq_1) := wp_of c18_71.eq_1
@[go_sem] theorem c18_72_wp : type_of% (wp_of c18_72.eq_1) := wp_of c18_72.eq_1
@[go_sem] theorem c18_73_wp : type_of% (wp_of c18_73.eq_1) := wp_of c18_73.eq_1
@[go_sem] theorem c18_74_wp : type_of% (wp_of c18_74.eq_1) := wp_of c18_74.eq_1
@[go_sem] theorem c18_75_wp : type_of% (wp_of c18_75.eq_1) := wp_of c18_75.eq_1
@[go_sem] theorem c18_76_wp : type_of% (wp_of c18_76.eq_1) := wp_of c18_76.eq_1
@[go_sem] theorem c18_77_wp : type_of% (wp_of c18_77.eq_1) := wp_of c18_77.eq_1
@[go_sem] theorem c18_78_wp : type_of% (wp_of c18_78.eq_1) := wp_of c18_78.eq_1
@[go_sem] theorem c18_79_wp : type_of% (wp_of c18_79.eq_1) := wp_of c18_79.eq_1
@[go_sem] theorem c18_80_wp : type_of% (wp_of c18_80.eq_1) := wp_of c18_80.eq_1
@[go_sem] theorem c18_81_wp : type_of% (wp_of c18_81.eq_1) := wp_of c18_81.eq_1
def c18 : AFn := ⟨133, [], c18_81⟩
set_option maxRecDepth 100000 in
theorem c18_ok : compF Tryd.prog Tryd.f18 = some c18 := by kernel_rfl
theorem a18 {args : List AV} {σ : ASt} {R : AV → ASt → Prop} (hl : args.length ≤ 133) (h : c18_81.wp Tryd.prog (RetQ [] R) (init args) σ) : ACalls Tryd.prog 18 args σ R := acalls_of Tryd.func18 c18_ok hl h

/-! 31: tabular/expr.inside -/
def c31_0 : ACode := .ops [
    ⟨(some 4), none, .e (.box (.t 1)), []⟩]
def c31_1 : ACode := .ops [
    ⟨(some 6), none, .q (.fa 0 (.t 4)), []⟩,
    ⟨(some 7), none, .q (.ld none (.t 6)), []⟩,
    ⟨(some 8), none, .e (.call 32 [(.t 7)]), []⟩,
    ⟨(some 9), none, .q (.mv (.t 2)), []⟩,
    ⟨(some 10), none, .q (.bin .geq (.t 8) (.t 9)), []⟩]
def c31_2 : ACode := .ops [
    ⟨(some 11), none, .q (.mv (.t 0)), []⟩,
    ⟨(some 12), none, .q (.ld (some 12) (.t 4)), []⟩,
    ⟨(some 13), none, .e (.call 18 [(.t 11), (.t 12)]), []⟩]
def c31_3 : ACode := .seq c31_2 .ret
def c31_4 : ACode := .cond (.t 10) c31_3 .skip
def c31_5 : ACode := .seq c31_1 c31_4
def c31_6 : ACode := .ops [
    ⟨(some 14), none, .q (.mv (.t 0)), []⟩,
    ⟨(some 15), none, .e (.call 30 [(.t 14), (.v (.int .u8 40))]), []⟩]
def c31_7 : ACode := .ops [
    ⟨(some 16), none, .q (.mv (.t 0)), []⟩,
    ⟨(some 17), none, .q (.ld (some 12) (.t 4)), []⟩,
    ⟨(some 18), none, .e (.call 18 [(.t 16), (.t 17)]), []⟩]
def c31_8 : ACode := .ops [
    ⟨(some 19), none, .q (.mv (.t 0)), []⟩,
    ⟨(some 20), none, .e (.call 30 [(.t 19), (.v (.int .u8 41))]), []⟩]
def c31_9 : ACode := .seq c31_7 c31_8
def c31_10 : ACode := .seq c31_6 c31_9
def c31_11 : ACode := .seq c31_5 c31_10
def c31_12 : ACode := .seq c31_0 c31_11
@[go_sem] theorem c31_0_wp : type_of% (wp_of c31_0.eq_1) := wp_of c31_0.eq_1
@[go_sem] theorem c31_1_wp : type_of% (wp_of c31_1.eq_1) := wp_of c31_1.eq_1
@[go_sem] theorem c31_2_wp : type_of% (wp_of c31_2.eq_1) := wp_of c31_2.eq_1
@[go_sem] theorem c31_3_wp : type_of% (wp_of c31_3.eq_1) := wp_of c31_3.eq_1
@[go_sem] theorem c31_4_wp : type_of% (wp_of c31_4.eq_1) := wp_of c31_4.eq_1
@[go_sem] theorem c31_5_wp : type_of% (wp_of c31_5.eq_1) := wp_of c31_5.eq_1
@[go_sem] theorem c31_6_wp : type_of% (wp_of c31_6.eq_1) := wp_of c31_6.eq_1
@[go_sem] theorem c31_7_wp : type_of% (wp_of c31_7.eq_1) := wp_of c31_7.eq_1
@[go_sem] theorem c31_8_wp : type_of% (wp_of c31_8.eq_1) := wp_of c31_8.eq_1
@[go_sem] theorem c31_9_wp : type_of% (wp_of c31_9.eq_1) := wp_of c31_9.eq_1
@[go_sem] theorem c31_10_wp : type_of% (wp_of c31_10.eq_1) := wp_of c31_10.eq_1
@[go_sem] theorem c31_11_wp : type_of% (wp_of c31_11.eq_1) := wp_of c31_11.eq_1
@[go_sem] theorem c31_12_wp : type_of% (wp_of c31_12.eq_1) := wp_of c31_12.eq_1
def c31 : AFn := ⟨21, [], c31_12⟩
set_option maxRecDepth 100000 in
theorem c31_ok : compF Tryd.prog Tryd.f31 = some c31 := by kernel_rfl
theorem a31 {args : List AV} {σ : ASt} {R : AV → ASt → Prop} (hl : args.length ≤ 21) (h : c31_12.wp Tryd.prog (RetQ [] R) (init args) σ) : ACalls Tryd.prog 31 args σ R := acalls_of Tryd.func31 c31_ok hl h

end Go.A
