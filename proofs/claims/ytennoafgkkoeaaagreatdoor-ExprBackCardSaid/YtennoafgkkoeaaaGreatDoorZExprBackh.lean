/- Part 8 of what ExprBack leans on: CodeEj Ej CodeVd Vd. -/
import Derived.Test.YtennoafgkkoeaaaGreatDoorProg
import Derived.KernelRfl
import Derived.Test.YtennoafgkkoeaaaGreatDoorZExprBackg
namespace Go.A
open Go.Proofs
/-! 31: tabular/tabularlaw12.grow -/
def c31_0 : ACode := .ops [
 ⟨some 4, none, .e (.alloc [(.int .i64 0), (.int .i64 0), (.str []), (.int .i64 0), (.int .i64 0), (.bool false), (.bool false), (.int .i64 0), (.int .i64 0), (.bool false), (.bool false), (.sl .full [])]), []⟩,
 ⟨some 5, none, .q (.mv (.v (.int .i64 0))), []⟩]
def c31_1 : ACode := .ops [
 ⟨some 14, none, .q (.mv (.t 1)), []⟩,
 ⟨some 15, none, .q (.mv (.t 0)), []⟩,
 ⟨some 16, none, .q (.len (.t 15)), []⟩,
 ⟨some 17, none, .q (.bin .geq (.t 14) (.t 16)), []⟩]
def c31_2 : ACode := .ops [
 ⟨some 18, none, .q (.build [(.int .i64 0), (.int .i64 0), (.str []), (.int .i64 0), (.int .i64 0), (.bool false), (.bool false), (.int .i64 0), (.int .i64 0), (.bool false), (.bool false), (.sl .full [])] [(0, 1, (.v (.int .i64 1)))]), []⟩,
 ⟨some 19, none, .q (.mv (.t 1)), []⟩,
 ⟨none, none, .e (.store 12 (.t 4) (.t 18)), []⟩,
 ⟨some 5, none, .q (.mv (.t 19)), []⟩]
def c31_3 : ACode := .seq c31_2 .ret
def c31_4 : ACode := .cond (.t 17) c31_3 .skip
def c31_5 : ACode := .seq c31_1 c31_4
def c31_6 : ACode := .ops [
 ⟨some 20, none, .q (.mv (.t 0)), []⟩,
 ⟨some 21, none, .q (.mv (.t 1)), []⟩,
 ⟨some 22, none, .q (.ia 11 (.t 20) (.t 21)), []⟩,
 ⟨some 23, none, .q (.ld (some 11) (.t 22)), []⟩,
 ⟨some 6, none, .e (.alloc [(.int .i64 0), (.int .i64 0), (.str []), (.int .i64 0), (.int .i64 0), (.bool false), (.bool false), (.int .i64 0), (.int .i64 0), (.bool false), (.bool false)]), []⟩,
 ⟨none, none, .e (.store 11 (.t 6) (.t 23)), []⟩]
def c31_7 : ACode := .ops [
 ⟨some 24, none, .q (.mv (.t 1)), []⟩,
 ⟨some 25, none, .q (.bin .add (.t 24) (.v (.int .i64 1))), []⟩,
 ⟨some 1, none, .q (.mv (.t 25)), []⟩]
def c31_8 : ACode := .ops [
 ⟨some 26, none, .q (.fa 0 (.t 6)), []⟩,
 ⟨some 27, none, .q (.ld none (.t 26)), []⟩,
 ⟨some 28, none, .q (.bin .rem (.t 27) (.v (.int .i64 23))), []⟩,
 ⟨some 29, none, .q (.bin .add (.t 28) (.v (.int .i64 23))), []⟩,
 ⟨some 30, none, .q (.bin .rem (.t 29) (.v (.int .i64 23))), []⟩,
 ⟨some 31, none, .q (.bin .add (.v (.int .i64 1)) (.t 30)), []⟩,
 ⟨some 32, none, .q (.build [(.int .i64 0), (.int .i64 0), (.str []), (.int .i64 0), (.int .i64 0), (.bool false), (.bool false), (.int .i64 0), (.int .i64 0), (.bool false), (.bool false), (.sl .full [])] [(0, 1, (.t 31))]), []⟩,
 ⟨some 7, none, .e (.alloc [(.int .i64 0), (.int .i64 0), (.str []), (.int .i64 0), (.int .i64 0), (.bool false), (.bool false), (.int .i64 0), (.int .i64 0), (.bool false), (.bool false), (.sl .full [])]), []⟩,
 ⟨none, none, .e (.store 12 (.t 7) (.t 32)), []⟩]
def c31_9 : ACode := .ops [
 ⟨some 8, none, .q (.mv (.v (.int .i64 0))), []⟩]
def c31_10 : ACode := .ops [
 ⟨some 33, none, .q (.fa 1 (.t 6)), []⟩,
 ⟨some 34, none, .q (.ld none (.t 33)), []⟩,
 ⟨some 35, none, .q (.bin .rem (.t 34) (.v (.int .i64 100000))), []⟩,
 ⟨some 36, none, .q (.bin .add (.t 35) (.v (.int .i64 100000))), []⟩,
 ⟨some 37, none, .q (.bin .rem (.t 36) (.v (.int .i64 100000))), []⟩,
 ⟨some 9, none, .q (.mv (.t 37)), []⟩]
def c31_11 : ACode := .ops [
 ⟨some 38, none, .q (.fa 0 (.t 7)), []⟩,
 ⟨some 39, none, .q (.ld none (.t 38)), []⟩]
def c31_12 : ACode := .ops [
 ⟨some 41, none, .q (.bin .eql (.t 39) (.v (.int .i64 1))), []⟩,
 ⟨some 40, none, .q (.mv (.t 41)), []⟩]
def c31_13 : ACode := .ops [
 ⟨some 42, none, .q (.mv (.t 9)), []⟩,
 ⟨some 43, none, .q (.fa 1 (.t 7)), []⟩,
 ⟨none, none, .e (.store 1 (.t 43) (.t 42)), []⟩]
def c31_14 : ACode := .ops [
 ⟨some 45, none, .q (.bin .eql (.t 39) (.v (.int .i64 3))), []⟩,
 ⟨some 44, none, .q (.mv (.t 45)), []⟩]
def c31_15 : ACode := .ops [
 ⟨some 46, none, .q (.mv (.t 9)), []⟩,
 ⟨some 47, none, .q (.bin .rem (.t 46) (.v (.int .i64 2))), []⟩,
 ⟨some 48, none, .q (.fa 1 (.t 7)), []⟩,
 ⟨none, none, .e (.store 1 (.t 48) (.t 47)), []⟩]
def c31_16 : ACode := .ops [
 ⟨some 50, none, .q (.bin .eql (.t 39) (.v (.int .i64 4))), []⟩,
 ⟨some 49, none, .q (.mv (.t 50)), []⟩]
def c31_17 : ACode := .ops [
 ⟨some 51, none, .q (.mv (.t 9)), []⟩,
 ⟨some 52, none, .q (.bin .rem (.t 51) (.v (.int .i64 7))), []⟩,
 ⟨some 53, none, .q (.bin .add (.v (.int .i64 1)) (.t 52)), []⟩,
 ⟨some 54, none, .q (.bin .mul (.t 53) (.v (.int .i64 10000))), []⟩,
 ⟨some 55, none, .q (.fa 1 (.t 7)), []⟩,
 ⟨none, none, .e (.store 1 (.t 55) (.t 54)), []⟩]
def c31_18 : ACode := .ops [
 ⟨some 57, none, .q (.bin .eql (.t 39) (.v (.int .i64 2))), []⟩,
 ⟨some 56, none, .q (.mv (.t 57)), []⟩]
def c31_19 : ACode := .ops [
 ⟨some 59, none, .q (.fa 2 (.t 6)), []⟩,
 ⟨some 60, none, .q (.ld none (.t 59)), []⟩,
 ⟨some 61, none, .e (.call 26 [(.t 60), (.v (.int .i64 20))]), []⟩,
 ⟨some 62, none, .e (.call 54 [(.t 61)]), []⟩,
 ⟨some 58, none, .q (.mv (.t 62)), []⟩,
 ⟨some 63, none, .q (.ext 0 (.t 58)), []⟩,
 ⟨some 64, none, .q (.ext 1 (.t 58)), []⟩,
 ⟨some 10, none, .q (.mv (.t 63)), []⟩,
 ⟨some 11, none, .q (.mv (.t 64)), []⟩]
def c31_20 : ACode := .ops [
 ⟨some 65, none, .q (.mv (.t 11)), []⟩]
def c31_21 : ACode := .ops [
 ⟨some 66, none, .q (.fa 2 (.t 6)), []⟩,
 ⟨some 67, none, .q (.ld none (.t 66)), []⟩,
 ⟨some 68, none, .e (.call 26 [(.t 67), (.v (.int .i64 20))]), []⟩,
 ⟨some 69, none, .q (.fa 2 (.t 7)), []⟩,
 ⟨none, none, .e (.store 1 (.t 69) (.t 68)), []⟩]
def c31_22 : ACode := .cond (.t 65) c31_21 .skip
def c31_23 : ACode := .seq c31_20 c31_22
def c31_24 : ACode := .seq c31_19 c31_23
def c31_25 : ACode := .ops [
 ⟨some 71, none, .q (.bin .eql (.t 39) (.v (.int .i64 5))), []⟩,
 ⟨some 70, none, .q (.mv (.t 71)), []⟩]
def c31_26 : ACode := .ops [
 ⟨some 72, none, .q (.fa 3 (.t 6)), []⟩,
 ⟨some 73, none, .q (.ld (some 4) (.t 72)), []⟩,
 ⟨some 74, none, .e (.call 55 [(.t 73)]), []⟩,
 ⟨some 75, none, .q (.fa 3 (.t 7)), []⟩,
 ⟨none, none, .e (.store 4 (.t 75) (.t 74)), []⟩]
def c31_27 : ACode := .ops [
 ⟨some 77, none, .q (.bin .eql (.t 39) (.v (.int .i64 6))), []⟩,
 ⟨some 76, none, .q (.mv (.t 77)), []⟩]
def c31_28 : ACode := .ops [
 ⟨some 78, none, .q (.fa 3 (.t 6)), []⟩,
 ⟨some 79, none, .q (.ld (some 4) (.t 78)), []⟩,
 ⟨some 80, none, .e (.call 55 [(.t 79)]), []⟩,
 ⟨some 81, none, .q (.fa 3 (.t 7)), []⟩,
 ⟨none, none, .e (.store 4 (.t 81) (.t 80)), []⟩]
def c31_29 : ACode := .ops [
 ⟨some 82, none, .q (.fa 7 (.t 6)), []⟩,
 ⟨some 83, none, .q (.ld (some 4) (.t 82)), []⟩,
 ⟨some 84, none, .e (.call 55 [(.t 83)]), []⟩,
 ⟨some 85, none, .q (.fa 7 (.t 7)), []⟩,
 ⟨none, none, .e (.store 4 (.t 85) (.t 84)), []⟩]
def c31_30 : ACode := .seq c31_28 c31_29
def c31_31 : ACode := .ops [
 ⟨some 87, none, .q (.bin .eql (.t 39) (.v (.int .i64 7))), []⟩,
 ⟨some 86, none, .q (.mv (.t 87)), []⟩]
def c31_32 : ACode := .ops [
 ⟨some 88, none, .q (.bin .eql (.t 39) (.v (.int .i64 8))), []⟩,
 ⟨some 86, none, .q (.mv (.t 88)), []⟩]
def c31_33 : ACode := .ops [
 ⟨some 89, none, .q (.bin .eql (.t 39) (.v (.int .i64 9))), []⟩,
 ⟨some 86, none, .q (.mv (.t 89)), []⟩]
def c31_34 : ACode := .cond (.t 86) .skip c31_33
def c31_35 : ACode := .seq c31_32 c31_34
def c31_36 : ACode := .cond (.t 86) .skip c31_35
def c31_37 : ACode := .seq c31_31 c31_36
def c31_38 : ACode := .ops [
 ⟨some 8, none, .q (.mv (.v (.int .i64 1))), []⟩]
def c31_39 : ACode := .ops [
 ⟨some 91, none, .q (.bin .eql (.t 39) (.v (.int .i64 23))), []⟩,
 ⟨some 90, none, .q (.mv (.t 91)), []⟩]
def c31_40 : ACode := .ops [
 ⟨some 92, none, .q (.build [(.int .i64 0), (.int .i64 0), (.str []), (.int .i64 0), (.int .i64 0), (.bool false), (.bool false), (.int .i64 0), (.int .i64 0), (.bool false), (.bool false), (.sl .full [])] [(0, 1, (.v (.int .i64 3)))]), []⟩,
 ⟨none, none, .e (.store 12 (.t 7) (.t 92)), []⟩]
def c31_41 : ACode := .ops [
 ⟨some 94, none, .q (.bin .eql (.t 39) (.v (.int .i64 22))), []⟩,
 ⟨some 93, none, .q (.mv (.t 94)), []⟩]
def c31_42 : ACode := .ops [
 ⟨some 95, none, .q (.bsl 1 [(.v (.str [83, 85, 77])), (.v (.str [73, 70])), (.v (.str [88, 46, 89])), (.v (.str [95, 65]))]), []⟩,
 ⟨some 96, none, .q (.mv (.t 9)), []⟩,
 ⟨some 97, none, .q (.bin .rem (.t 96) (.v (.int .i64 4))), []⟩,
 ⟨some 98, none, .q (.ia 1 (.t 95) (.t 97)), []⟩,
 ⟨some 99, none, .q (.ld none (.t 98)), []⟩,
 ⟨some 100, none, .q (.fa 2 (.t 7)), []⟩,
 ⟨none, none, .e (.store 1 (.t 100) (.t 99)), []⟩]
def c31_43 : ACode := .ops [
 ⟨some 101, none, .q (.mv (.t 9)), []⟩,
 ⟨some 102, none, .q (.bin .quo (.t 101) (.v (.int .i64 4))), []⟩,
 ⟨some 103, none, .q (.bin .rem (.t 102) (.v (.int .i64 4))), []⟩,
 ⟨some 8, none, .q (.mv (.t 103)), []⟩]
def c31_44 : ACode := .seq c31_42 c31_43
def c31_45 : ACode := .ops [
 ⟨some 8, none, .q (.mv (.v (.int .i64 2))), []⟩]
def c31_46 : ACode := .cond (.t 93) c31_44 c31_45
def c31_47 : ACode := .seq c31_41 c31_46
def c31_48 : ACode := .cond (.t 90) c31_40 c31_47
def c31_49 : ACode := .seq c31_39 c31_48
def c31_50 : ACode := .cond (.t 86) c31_38 c31_49
def c31_51 : ACode := .seq c31_37 c31_50
def c31_52 : ACode := .cond (.t 76) c31_30 c31_51
def c31_53 : ACode := .seq c31_27 c31_52
def c31_54 : ACode := .cond (.t 70) c31_26 c31_53
def c31_55 : ACode := .seq c31_25 c31_54
def c31_56 : ACode := .cond (.t 56) c31_24 c31_55
def c31_57 : ACode := .seq c31_18 c31_56
def c31_58 : ACode := .cond (.t 49) c31_17 c31_57
def c31_59 : ACode := .seq c31_16 c31_58
def c31_60 : ACode := .cond (.t 44) c31_15 c31_59
def c31_61 : ACode := .seq c31_14 c31_60
def c31_62 : ACode := .cond (.t 40) c31_13 c31_61
def c31_63 : ACode := .seq c31_12 c31_62
def c31_64 : ACode := .block 0 c31_63
def c31_65 : ACode := .seq c31_11 c31_64
def c31_66 : ACode := .ops [
 ⟨some 104, none, .q (.mv (.t 8)), []⟩,
 ⟨some 105, none, .q (.bin .gtr (.t 104) (.v (.int .i64 0))), []⟩]
def c31_67 : ACode := .cond (.t 105) .skip (.exit 1)
def c31_68 : ACode := .seq c31_66 c31_67
def c31_69 : ACode := .ops [
 ⟨some 109, none, .q (.mv (.t 0)), []⟩,
 ⟨some 110, none, .q (.mv (.t 1)), []⟩,
 ⟨some 111, none, .e (.call 31 [(.t 109), (.t 110)]), []⟩,
 ⟨some 108, none, .q (.mv (.t 111)), []⟩,
 ⟨some 112, none, .q (.ext 0 (.t 108)), []⟩,
 ⟨some 113, none, .q (.ext 1 (.t 108)), []⟩,
 ⟨some 12, none, .e (.alloc [(.int .i64 0), (.int .i64 0), (.str []), (.int .i64 0), (.int .i64 0), (.bool false), (.bool false), (.int .i64 0), (.int .i64 0), (.bool false), (.bool false), (.sl .full [])]), []⟩,
 ⟨none, none, .e (.store 12 (.t 12) (.t 112)), []⟩,
 ⟨some 13, none, .q (.mv (.t 113)), []⟩]
def c31_70 : ACode := .ops [
 ⟨some 114, none, .q (.mv (.t 13)), []⟩,
 ⟨some 1, none, .q (.mv (.t 114)), []⟩]
def c31_71 : ACode := .ops [
 ⟨some 115, none, .q (.fa 11 (.t 7)), []⟩,
 ⟨some 116, none, .q (.ld none (.t 115)), []⟩,
 ⟨some 117, none, .q (.ld (some 12) (.t 12)), []⟩,
 ⟨some 118, none, .q (.bsl 12 [(.t 117)]), []⟩,
 ⟨some 119, none, .e (.app 28 12 104 [(.int .i64 0), (.int .i64 0), (.str []), (.int .i64 0), (.int .i64 0), (.bool false), (.bool false), (.int .i64 0), (.int .i64 0), (.bool false), (.bool false), (.sl .full [])] (.t 116) (.t 118)), []⟩,
 ⟨some 120, none, .q (.fa 11 (.t 7)), []⟩,
 ⟨none, none, .e (.store 1 (.t 120) (.t 119)), []⟩]
def c31_72 : ACode := .seq c31_70 c31_71
def c31_73 : ACode := .seq c31_69 c31_72
def c31_74 : ACode := .block 2 c31_73
def c31_75 : ACode := .ops [
 ⟨some 106, none, .q (.mv (.t 8)), []⟩,
 ⟨some 107, none, .q (.bin .sub (.t 106) (.v (.int .i64 1))), []⟩,
 ⟨some 8, none, .q (.mv (.t 107)), []⟩]
def c31_76 : ACode := .seq c31_74 c31_75
def c31_77 : ACode := .seq c31_68 c31_76
def c31_78 : ACode := .loop c31_77
def c31_79 : ACode := .block 1 c31_78
def c31_80 : ACode := .ops [
 ⟨some 121, none, .q (.fa 0 (.t 7)), []⟩,
 ⟨some 122, none, .q (.ld none (.t 121)), []⟩,
 ⟨some 123, none, .q (.bin .eql (.t 122) (.v (.int .i64 22))), []⟩,
 ⟨some 124, none, .q (.mv (.t 123)), []⟩,
 ⟨some 125, some (124, true), .q (.fa 11 (.t 7)), []⟩,
 ⟨some 126, some (124, true), .q (.ld none (.t 125)), []⟩,
 ⟨some 127, some (124, true), .q (.len (.t 126)), []⟩,
 ⟨some 128, some (124, true), .q (.bin .gtr (.t 127) (.v (.int .i64 1))), []⟩,
 ⟨some 129, none, .q (.pick (.t 124) (.t 128) (.v (.bool false))), []⟩,
 ⟨some 130, none, .q (.mv (.t 129)), []⟩,
 ⟨some 131, some (130, true), .q (.mv (.t 9)), []⟩,
 ⟨some 132, some (130, true), .q (.bin .rem (.t 131) (.v (.int .i64 3))), []⟩,
 ⟨some 133, some (130, true), .q (.bin .eql (.t 132) (.v (.int .i64 0))), []⟩,
 ⟨some 134, none, .q (.pick (.t 130) (.t 133) (.v (.bool false))), []⟩]
def c31_81 : ACode := .ops [
 ⟨some 135, none, .q (.fa 11 (.t 7)), []⟩,
 ⟨some 136, none, .q (.ld none (.t 135)), []⟩,
 ⟨some 137, none, .q (.build [(.int .i64 0), (.int .i64 0), (.str []), (.int .i64 0), (.int .i64 0), (.bool false), (.bool false), (.int .i64 0), (.int .i64 0), (.bool false), (.bool false), (.sl .full [])] [(0, 1, (.v (.int .i64 23)))]), []⟩,
 ⟨some 138, none, .q (.ia 12 (.t 136) (.v (.int .i64 0))), []⟩,
 ⟨none, none, .e (.store 12 (.t 138) (.t 137)), []⟩]
def c31_82 : ACode := .cond (.t 134) c31_81 .skip
def c31_83 : ACode := .seq c31_80 c31_82
def c31_84 : ACode := .ops [
 ⟨some 139, none, .q (.ld (some 12) (.t 7)), []⟩,
 ⟨some 140, none, .q (.mv (.t 1)), []⟩,
 ⟨none, none, .e (.store 12 (.t 4) (.t 139)), []⟩,
 ⟨some 5, none, .q (.mv (.t 140)), []⟩]
def c31_85 : ACode := .seq c31_84 .ret
def c31_86 : ACode := .seq c31_83 c31_85
def c31_87 : ACode := .seq c31_79 c31_86
def c31_88 : ACode := .seq c31_65 c31_87
def c31_89 : ACode := .seq c31_10 c31_88
def c31_90 : ACode := .seq c31_9 c31_89
def c31_91 : ACode := .seq c31_8 c31_90
def c31_92 : ACode := .seq c31_7 c31_91
def c31_93 : ACode := .seq c31_6 c31_92
def c31_94 : ACode := .seq c31_5 c31_93
def c31_95 : ACode := .seq c31_0 c31_94
@[go_sem] theorem c31_0_wp : type_of% (wp_of c31_0.eq_1) := wp_of c31_0.eq_1
@[go_sem] theorem c31_1_wp : type_of% (wp_of c31_1.eq_1) := wp_of c31_1.eq_1
@[go_sem] theorem c31_2_wp : type_of% (wp_of c31_2.eq_1) := wp_of c31_2.eq_1
@[go_sem] theorem c31_3_wp : type_of% (wp_of c31_3.eq_1) := wp_of c31_3.eq_1
@[go_sem] theorem c31_4_wp : type_of% (wp_of c31_4.eq_1) := wp_of c31_4.eq_1
@[go_sem] theorem c31_5_wp : type_of% (wp_of c31_5.eq_1) := wp_of c31_5.eq_1
@[go_sem] theorem c31_6_wp : type_of% (wp_of c31_6.eq_1) := wp_of c31_6.eq_1
@[go_sem] theorem c31_7_wp : type_of% (wp_of c31_7.eq_1) := wp_of c31_7.eq_1
@[go_sem] theorem c31_8_wp : type_of% (wp_of c31_8.eq_1) := wp_of c31_8.eq_1
@[go_sem] theorem c31_9_wp : type_of% (wp_of c31_9.eq_1) := wp_of c31_9.eq_1
@[go_sem] theorem c31_10_wp : type_of% (wp_of c31_10.eq_1) := wp_of c31_10.eq_1
@[go_sem] theorem c31_11_wp : type_of% (wp_of c31_11.eq_1) := wp_of c31_11.eq_1
@[go_sem] theorem c31_12_wp : type_of% (wp_of c31_12.eq_1) := wp_of c31_12.eq_1
@[go_sem] theorem c31_13_wp : type_of% (wp_of c31_13.eq_1) := wp_of c31_13.eq_1
@[go_sem] theorem c31_14_wp : type_of% (wp_of c31_14.eq_1) := wp_of c31_14.eq_1
@[go_sem] theorem c31_15_wp : type_of% (wp_of c31_15.eq_1) := wp_of c31_15.eq_1
@[go_sem] theorem c31_16_wp : type_of% (wp_of c31_16.eq_1) := wp_of c31_16.eq_1
@[go_sem] theorem c31_17_wp : type_of% (wp_of c31_17.eq_1) := wp_of c31_17.eq_1
@[go_sem] theorem c31_18_wp : type_of% (wp_of c31_18.eq_1) := wp_of c31_18.eq_1
@[go_sem] theorem c31_19_wp : type_of% (wp_of c31_19.eq_1) := wp_of c31_19.eq_1
@[go_sem] theorem c31_20_wp : type_of% (wp_of c31_20.eq_1) := wp_of c31_20.eq_1
@[go_sem] theorem c31_21_wp : type_of% (wp_of c31_21.eq_1) := wp_of c31_21.eq_1
@[go_sem] theorem c31_22_wp : type_of% (wp_of c31_22.eq_1) := wp_of c31_22.eq_1
@[go_sem] theorem c31_23_wp : type_of% (wp_of c31_23.eq_1) := wp_of c31_23.eq_1
@[go_sem] theorem c31_24_wp : type_of% (wp_of c31_24.eq_1) := wp_of c31_24.eq_1
@[go_sem] theorem c31_25_wp : type_of% (wp_of c31_25.eq_1) := wp_of c31_25.eq_1
@[go_sem] theorem c31_26_wp : type_of% (wp_of c31_26.eq_1) := wp_of c31_26.eq_1
@[go_sem] theorem c31_27_wp : type_of% (wp_of c31_27.eq_1) := wp_of c31_27.eq_1
@[go_sem] theorem c31_28_wp : type_of% (wp_of c31_28.eq_1) := wp_of c31_28.eq_1
@[go_sem] theorem c31_29_wp : type_of% (wp_of c31_29.eq_1) := wp_of c31_29.eq_1
@[go_sem] theorem c31_30_wp : type_of% (wp_of c31_30.eq_1) := wp_of c31_30.eq_1
@[go_sem] theorem c31_31_wp : type_of% (wp_of c31_31.eq_1) := wp_of c31_31.eq_1
@[go_sem] theorem c31_32_wp : type_of% (wp_of c31_32.eq_1) := wp_of c31_32.eq_1
@[go_sem] theorem c31_33_wp : type_of% (wp_of c31_33.eq_1) := wp_of c31_33.eq_1
@[go_sem] theorem c31_34_wp : type_of% (wp_of c31_34.eq_1) := wp_of c31_34.eq_1
@[go_sem] theorem c31_35_wp : type_of% (wp_of c31_35.eq_1) := wp_of c31_35.eq_1
@[go_sem] theorem c31_36_wp : type_of% (wp_of c31_36.eq_1) := wp_of c31_36.eq_1
@[go_sem] theorem c31_37_wp : type_of% (wp_of c31_37.eq_1) := wp_of c31_37.eq_1
@[go_sem] theorem c31_38_wp : type_of% (wp_of c31_38.eq_1) := wp_of c31_38.eq_1
@[go_sem] theorem c31_39_wp : type_of% (wp_of c31_39.eq_1) := wp_of c31_39.eq_1
@[go_sem] theorem c31_40_wp : type_of% (wp_of c31_40.eq_1) := wp_of c31_40.eq_1
@[go_sem] theorem c31_41_wp : type_of% (wp_of c31_41.eq_1) := wp_of c31_41.eq_1
@[go_sem] theorem c31_42_wp : type_of% (wp_of c31_42.eq_1) := wp_of c31_42.eq_1
@[go_sem] theorem c31_43_wp : type_of% (wp_of c31_43.eq_1) := wp_of c31_43.eq_1
@[go_sem] theorem c31_44_wp : type_of% (wp_of c31_44.eq_1) := wp_of c31_44.eq_1
@[go_sem] theorem c31_45_wp : type_of% (wp_of c31_45.eq_1) := wp_of c31_45.eq_1
@[go_sem] theorem c31_46_wp : type_of% (wp_of c31_46.eq_1) := wp_of c31_46.eq_1
@[go_sem] theorem c31_47_wp : type_of% (wp_of c31_47.eq_1) := wp_of c31_47.eq_1
@[go_sem] theorem c31_48_wp : type_of% (wp_of c31_48.eq_1) := wp_of c31_48.eq_1
@[go_sem] theorem c31_49_wp : type_of% (wp_of c31_49.eq_1) := wp_of c31_49.eq_1
@[go_sem] theorem c31_50_wp : type_of% (wp_of c31_50.eq_1) := wp_of c31_50.eq_1
@[go_sem] theorem c31_51_wp : type_of% (wp_of c31_51.eq_1) := wp_of c31_51.eq_1
@[go_sem] theorem c31_52_wp : type_of% (wp_of c31_52.eq_1) := wp_of c31_52.eq_1
@[go_sem] theorem c31_53_wp : type_of% (wp_of c31_53.eq_1) := wp_of c31_53.eq_1
@[go_sem] theorem c31_54_wp : type_of% (wp_of c31_54.eq_1) := wp_of c31_54.eq_1
@[go_sem] theorem c31_55_wp : type_of% (wp_of c31_55.eq_1) := wp_of c31_55.eq_1
@[go_sem] theorem c31_56_wp : type_of% (wp_of c31_56.eq_1) := wp_of c31_56.eq_1
@[go_sem] theorem c31_57_wp : type_of% (wp_of c31_57.eq_1) := wp_of c31_57.eq_1
@[go_sem] theorem c31_58_wp : type_of% (wp_of c31_58.eq_1) := wp_of c31_58.eq_1
@[go_sem] theorem c31_59_wp : type_of% (wp_of c31_59.eq_1) := wp_of c31_59.eq_1
@[go_sem] theorem c31_60_wp : type_of% (wp_of c31_60.eq_1) := wp_of c31_60.eq_1
@[go_sem] theorem c31_61_wp : type_of% (wp_of c31_61.eq_1) := wp_of c31_61.eq_1
@[go_sem] theorem c31_62_wp : type_of% (wp_of c31_62.eq_1) := wp_of c31_62.eq_1
@[go_sem] theorem c31_63_wp : type_of% (wp_of c31_63.eq_1) := wp_of c31_63.eq_1
@[go_sem] theorem c31_64_wp : type_of% (wp_of c31_64.eq_1) := wp_of c31_64.eq_1
@[go_sem] theorem c31_65_wp : type_of% (wp_of c31_65.eq_1) := wp_of c31_65.eq_1
@[go_sem] theorem c31_66_wp : type_of% (wp_of c31_66.eq_1) := wp_of c31_66.eq_1
@[go_sem] theorem c31_67_wp : type_of% (wp_of c31_67.eq_1) := wp_of c31_67.eq_1
@[go_sem] theorem c31_68_wp : type_of% (wp_of c31_68.eq_1) := wp_of c31_68.eq_1
@[go_sem] theorem c31_69_wp : type_of% (wp_of c31_69.eq_1) := wp_of c31_69.eq_1
@[go_sem] theorem c31_70_wp : type_of% (wp_of c31_70.eq_1) := wp_of c31_70.eq_1
@[go_sem] theorem c31_71_wp : type_of% (wp_of c31_71.eq_1) := wp_of c31_71.eq_1
@[go_sem] theorem c31_72_wp : type_of% (wp_of c31_72.eq_1) := wp_of c31_72.eq_1
@[go_sem] theorem c31_73_wp : type_of% (wp_of c31_73.eq_1) := wp_of c31_73.eq_1
@[go_sem] theorem c31_74_wp : type_of% (wp_of c31_74.eq_1) := wp_of c31_74.eq_1
@[go_sem] theorem c31_75_wp : type_of% (wp_of c31_75.eq_1) := wp_of c31_75.eq_1
@[go_sem] theorem c31_76_wp : type_of% (wp_of c31_76.eq_1) := wp_of c31_76.eq_1
@[go_sem] theorem c31_77_wp : type_of% (wp_of c31_77.eq_1) := wp_of c31_77.eq_1
@[go_sem] theorem c31_78_wp : type_of% (wp_of c31_78.eq_1) := wp_of c31_78.eq_1
@[go_sem] theorem c31_79_wp : type_of% (wp_of c31_79.eq_1) := wp_of c31_79.eq_1
@[go_sem] theorem c31_80_wp : type_of% (wp_of c31_80.eq_1) := wp_of c31_80.eq_1
@[go_sem] theorem c31_81_wp : type_of% (wp_of c31_81.eq_1) := wp_of c31_81.eq_1
@[go_sem] theorem c31_82_wp : type_of% (wp_of c31_82.eq_1) := wp_of c31_82.eq_1
@[go_sem] theorem c31_83_wp : type_of% (wp_of c31_83.eq_1) := wp_of c31_83.eq_1
@[go_sem] theorem c31_84_wp : type_of% (wp_of c31_84.eq_1) := wp_of c31_84.eq_1
@[go_sem] theorem c31_85_wp : type_of% (wp_of c31_85.eq_1) := wp_of c31_85.eq_1
@[go_sem] theorem c31_86_wp : type_of% (wp_of c31_86.eq_1) := wp_of c31_86.eq_1
@[go_sem] theorem c31_87_wp : type_of% (wp_of c31_87.eq_1) := wp_of c31_87.eq_1
@[go_sem] theorem c31_88_wp : type_of% (wp_of c31_88.eq_1) := wp_of c31_88.eq_1
@[go_sem] theorem c31_89_wp : type_of% (wp_of c31_89.eq_1) := wp_of c31_89.eq_1
@[go_sem] theorem c31_90_wp : type_of% (wp_of c31_90.eq_1) := wp_of c31_90.eq_1
@[go_sem] theorem c31_91_wp : type_of% (wp_of c31_91.eq_1) := wp_of c31_91.eq_1
@[go_sem] theorem c31_92_wp : type_of% (wp_of c31_92.eq_1) := wp_of c31_92.eq_1
@[go_sem] theorem c31_93_wp : type_of% (wp_of c31_93.eq_1) := wp_of c31_93.eq_1
@[go_sem] theorem c31_94_wp : type_of% (wp_of c31_94.eq_1) := wp_of c31_94.eq_1
@[go_sem] theorem c31_95_wp : type_of% (wp_of c31_95.eq_1) := wp_of c31_95.eq_1
def c31 : AFn := ⟨141, [.c 4 (some 12), .t 5], c31_95⟩
set_option maxRecDepth 100000 in
theorem c31_ok : compF Tryz.prog Tryz.f31 = some c31 := by kernel_rfl
theorem a31 {args : List AV} {σ : ASt} {R : AV → ASt → Prop} (hl : args.length ≤ 141) (h : c31_95.wp Tryz.prog (RetQ [.c 4 (some 12), .t 5] R) (init args) σ) : ACalls Tryz.prog 31 args σ R := acalls_of Tryz.func31 c31_ok hl h
/-! 54: tabular/tabularref11.Signs -/
def c54_0 : ACode := .ops [
 ⟨some 2, none, .q (.mv (.v (.int .i64 0))), []⟩,
 ⟨some 3, none, .q (.mv (.v (.bool false))), []⟩]
def c54_1 : ACode := .ops [
 ⟨some 4, none, .q (.mv (.v (.int .i64 0))), []⟩]
def c54_2 : ACode := .ops [
 ⟨some 5, none, .q (.mv (.v (.int .i64 0))), []⟩]
def c54_3 : ACode := .ops [
 ⟨some 7, none, .q (.mv (.t 5)), []⟩,
 ⟨some 8, none, .q (.mv (.t 0)), []⟩,
 ⟨some 9, none, .q (.lenS (.t 8)), []⟩,
 ⟨some 10, none, .q (.bin .lss (.t 7) (.t 9)), []⟩]
def c54_4 : ACode := .cond (.t 10) .skip (.exit 0)
def c54_5 : ACode := .seq c54_3 c54_4
def c54_6 : ACode := .ops [
 ⟨some 11, none, .q (.mv (.t 0)), []⟩,
 ⟨some 12, none, .q (.mv (.t 5)), []⟩,
 ⟨some 13, none, .e (.call 80 [(.t 11), (.t 12)]), []⟩,
 ⟨some 6, none, .q (.mv (.t 13)), []⟩]
def c54_7 : ACode := .ops [
 ⟨some 14, none, .q (.mv (.t 6)), []⟩,
 ⟨some 15, none, .q (.bin .eql (.t 14) (.v (.int .i64 0))), []⟩]
def c54_8 : ACode := .ops [
 ⟨some 2, none, .q (.mv (.v (.int .i64 0))), []⟩,
 ⟨some 3, none, .q (.mv (.v (.bool false))), []⟩]
def c54_9 : ACode := .seq c54_8 .ret
def c54_10 : ACode := .cond (.t 15) c54_9 .skip
def c54_11 : ACode := .seq c54_7 c54_10
def c54_12 : ACode := .ops [
 ⟨some 16, none, .q (.mv (.t 5)), []⟩,
 ⟨some 17, none, .q (.mv (.t 6)), []⟩,
 ⟨some 18, none, .q (.bin .add (.t 16) (.t 17)), []⟩,
 ⟨some 5, none, .q (.mv (.t 18)), []⟩]
def c54_13 : ACode := .ops [
 ⟨some 19, none, .q (.mv (.t 4)), []⟩,
 ⟨some 20, none, .q (.bin .add (.t 19) (.v (.int .i64 1))), []⟩,
 ⟨some 4, none, .q (.mv (.t 20)), []⟩]
def c54_14 : ACode := .seq c54_12 c54_13
def c54_15 : ACode := .seq c54_11 c54_14
def c54_16 : ACode := .seq c54_6 c54_15
def c54_17 : ACode := .block 1 c54_16
def c54_18 : ACode := .seq c54_5 c54_17
def c54_19 : ACode := .loop c54_18
def c54_20 : ACode := .block 0 c54_19
def c54_21 : ACode := .seq c54_2 c54_20
def c54_22 : ACode := .ops [
 ⟨some 21, none, .q (.mv (.t 4)), []⟩,
 ⟨some 2, none, .q (.mv (.t 21)), []⟩,
 ⟨some 3, none, .q (.mv (.v (.bool true))), []⟩]
def c54_23 : ACode := .seq c54_22 .ret
def c54_24 : ACode := .seq c54_21 c54_23
def c54_25 : ACode := .seq c54_1 c54_24
def c54_26 : ACode := .seq c54_0 c54_25
@[go_sem] theorem c54_0_wp : type_of% (wp_of c54_0.eq_1) := wp_of c54_0.eq_1
@[go_sem] theorem c54_1_wp : type_of% (wp_of c54_1.eq_1) := wp_of c54_1.eq_1
@[go_sem] theorem c54_2_wp : type_of% (wp_of c54_2.eq_1) := wp_of c54_2.eq_1
@[go_sem] theorem c54_3_wp : type_of% (wp_of c54_3.eq_1) := wp_of c54_3.eq_1
@[go_sem] theorem c54_4_wp : type_of% (wp_of c54_4.eq_1) := wp_of c54_4.eq_1
@[go_sem] theorem c54_5_wp : type_of% (wp_of c54_5.eq_1) := wp_of c54_5.eq_1
@[go_sem] theorem c54_6_wp : type_of% (wp_of c54_6.eq_1) := wp_of c54_6.eq_1
@[go_sem] theorem c54_7_wp : type_of% (wp_of c54_7.eq_1) := wp_of c54_7.eq_1
@[go_sem] theorem c54_8_wp : type_of% (wp_of c54_8.eq_1) := wp_of c54_8.eq_1
@[go_sem] theorem c54_9_wp : type_of% (wp_of c54_9.eq_1) := wp_of c54_9.eq_1
@[go_sem] theorem c54_10_wp : type_of% (wp_of c54_10.eq_1) := wp_of c54_10.eq_1
@[go_sem] theorem c54_11_wp : type_of% (wp_of c54_11.eq_1) := wp_of c54_11.eq_1
@[go_sem] theorem c54_12_wp : type_of% (wp_of c54_12.eq_1) := wp_of c54_12.eq_1
@[go_sem] theorem c54_13_wp : type_of% (wp_of c54_13.eq_1) := wp_of c54_13.eq_1
@[go_sem] theorem c54_14_wp : type_of% (wp_of c54_14.eq_1) := wp_of c54_14.eq_1
@[go_sem] theorem c54_15_wp : type_of% (wp_of c54_15.eq_1) := wp_of c54_15.eq_1
@[go_sem] theorem c54_16_wp : type_of% (wp_of c54_16.eq_1) := wp_of c54_16.eq_1
@[go_sem] theorem c54_17_wp : type_of% (wp_of c54_17.eq_1) := wp_of c54_17.eq_1
@[go_sem] theorem c54_18_wp : type_of% (wp_of c54_18.eq_1) := wp_of c54_18.eq_1
@[go_sem] theorem c54_19_wp : type_of% (wp_of c54_19.eq_1) := wp_of c54_19.eq_1
@[go_sem] theorem c54_20_wp : type_of% (wp_of c54_20.eq_1) := wp_of c54_20.eq_1
@[go_sem] theorem c54_21_wp : type_of% (wp_of c54_21.eq_1) := wp_of c54_21.eq_1
@[go_sem] theorem c54_22_wp : type_of% (wp_of c54_22.eq_1) := wp_of c54_22.eq_1
@[go_sem] theorem c54_23_wp : type_of% (wp_of c54_23.eq_1) := wp_of c54_23.eq_1
@[go_sem] theorem c54_24_wp : type_of% (wp_of c54_24.eq_1) := wp_of c54_24.eq_1
@[go_sem] theorem c54_25_wp : type_of% (wp_of c54_25.eq_1) := wp_of c54_25.eq_1
@[go_sem] theorem c54_26_wp : type_of% (wp_of c54_26.eq_1) := wp_of c54_26.eq_1
def c54 : AFn := ⟨22, [.t 2, .t 3], c54_26⟩
set_option maxRecDepth 100000 in
theorem c54_ok : compF Tryz.prog Tryz.f54 = some c54 := by kernel_rfl
theorem a54 {args : List AV} {σ : ASt} {R : AV → ASt → Prop} (hl : args.length ≤ 22) (h : c54_26.wp Tryz.prog (RetQ [.t 2, .t 3] R) (init args) σ) : ACalls Tryz.prog 54 args σ R := acalls_of Tryz.func54 c54_ok hl h
/-! 55: tabular/tabularlaw12.place -/
def c55_0 : ACode := .ops [
 ⟨some 1, none, .e (.box (.t 0)), []⟩,
 ⟨some 2, none, .e (.alloc [(.int .i64 0), (.int .i64 0), (.bool false), (.bool false)]), []⟩]
def c55_1 : ACode := .ops [
 ⟨some 3, none, .q (.fa 0 (.t 1)), []⟩,
 ⟨some 4, none, .q (.ld none (.t 3)), []⟩,
 ⟨some 5, none, .q (.bin .rem (.t 4) (.v (.int .i64 3000))), []⟩,
 ⟨some 6, none, .q (.bin .add (.t 5) (.v (.int .i64 3000))), []⟩,
 ⟨some 7, none, .q (.bin .rem (.t 6) (.v (.int .i64 3000))), []⟩,
 ⟨some 8, none, .q (.fa 0 (.t 1)), []⟩,
 ⟨none, none, .e (.store 1 (.t 8) (.t 7)), []⟩]
def c55_2 : ACode := .ops [
 ⟨some 9, none, .q (.fa 1 (.t 1)), []⟩,
 ⟨some 10, none, .q (.ld none (.t 9)), []⟩,
 ⟨some 11, none, .q (.bin .rem (.t 10) (.v (.int .i64 700))), []⟩,
 ⟨some 12, none, .q (.bin .add (.t 11) (.v (.int .i64 700))), []⟩,
 ⟨some 13, none, .q (.bin .rem (.t 12) (.v (.int .i64 700))), []⟩,
 ⟨some 14, none, .q (.fa 1 (.t 1)), []⟩,
 ⟨none, none, .e (.store 1 (.t 14) (.t 13)), []⟩]
def c55_3 : ACode := .ops [
 ⟨some 15, none, .q (.ld (some 4) (.t 1)), []⟩,
 ⟨none, none, .e (.store 4 (.t 2) (.t 15)), []⟩]
def c55_4 : ACode := .seq c55_3 .ret
def c55_5 : ACode := .seq c55_2 c55_4
def c55_6 : ACode := .seq c55_1 c55_5
def c55_7 : ACode := .seq c55_0 c55_6
@[go_sem] theorem c55_0_wp : type_of% (wp_of c55_0.eq_1) := wp_of c55_0.eq_1
@[go_sem] theorem c55_1_wp : type_of% (wp_of c55_1.eq_1) := wp_of c55_1.eq_1
@[go_sem] theorem c55_2_wp : type_of% (wp_of c55_2.eq_1) := wp_of c55_2.eq_1
@[go_sem] theorem c55_3_wp : type_of% (wp_of c55_3.eq_1) := wp_of c55_3.eq_1
@[go_sem] theorem c55_4_wp : type_of% (wp_of c55_4.eq_1) := wp_of c55_4.eq_1
@[go_sem] theorem c55_5_wp : type_of% (wp_of c55_5.eq_1) := wp_of c55_5.eq_1
@[go_sem] theorem c55_6_wp : type_of% (wp_of c55_6.eq_1) := wp_of c55_6.eq_1
@[go_sem] theorem c55_7_wp : type_of% (wp_of c55_7.eq_1) := wp_of c55_7.eq_1
def c55 : AFn := ⟨16, [.c 2 (some 4)], c55_7⟩
set_option maxRecDepth 100000 in
theorem c55_ok : compF Tryz.prog Tryz.f55 = some c55 := by kernel_rfl
theorem a55 {args : List AV} {σ : ASt} {R : AV → ASt → Prop} (hl : args.length ≤ 16) (h : c55_7.wp Tryz.prog (RetQ [.c 2 (some 4)] R) (init args) σ) : ACalls Tryz.prog 55 args σ R := acalls_of Tryz.func55 c55_ok hl h
/-! 80: tabular/tabularref11.Sign -/
def c80_0 : ACode := .ops [
 ⟨some 4, none, .q (.mv (.v (.int .i64 0))), []⟩]
def c80_1 : ACode := .ops [
 ⟨some 8, none, .q (.mv (.t 1)), []⟩,
 ⟨some 9, none, .q (.mv (.t 0)), []⟩,
 ⟨some 10, none, .q (.lenS (.t 9)), []⟩,
 ⟨some 11, none, .q (.bin .geq (.t 8) (.t 10)), []⟩]
def c80_2 : ACode := .ops [
 ⟨some 4, none, .q (.mv (.v (.int .i64 0))), []⟩]
def c80_3 : ACode := .seq c80_2 .ret
def c80_4 : ACode := .cond (.t 11) c80_3 .skip
def c80_5 : ACode := .seq c80_1 c80_4
def c80_6 : ACode := .ops [
 ⟨some 12, none, .q (.mv (.t 0)), []⟩,
 ⟨some 13, none, .q (.mv (.t 1)), []⟩,
 ⟨some 14, none, .q (.idx (.t 12) (.t 13)), []⟩,
 ⟨some 15, none, .q (.conv .i64 (.t 14)), []⟩,
 ⟨some 5, none, .q (.mv (.t 15)), []⟩]
def c80_7 : ACode := .ops [
 ⟨some 16, none, .q (.mv (.t 5)), []⟩,
 ⟨some 17, none, .q (.bin .lss (.t 16) (.v (.int .i64 128))), []⟩]
def c80_8 : ACode := .ops [
 ⟨some 4, none, .q (.mv (.v (.int .i64 1))), []⟩]
def c80_9 : ACode := .seq c80_8 .ret
def c80_10 : ACode := .cond (.t 17) c80_9 .skip
def c80_11 : ACode := .seq c80_7 c80_10
def c80_12 : ACode := .ops [
 ⟨some 18, none, .q (.mv (.t 5)), []⟩,
 ⟨some 19, none, .q (.bin .geq (.t 18) (.v (.int .i64 194))), []⟩,
 ⟨some 20, none, .q (.mv (.t 19)), []⟩,
 ⟨some 21, some (20, true), .q (.mv (.t 5)), []⟩,
 ⟨some 22, some (20, true), .q (.bin .leq (.t 21) (.v (.int .i64 223))), []⟩,
 ⟨some 23, none, .q (.pick (.t 20) (.t 22) (.v (.bool false))), []⟩,
 ⟨some 24, none, .q (.mv (.t 23)), []⟩,
 ⟨some 25, some (24, true), .q (.mv (.t 0)), []⟩,
 ⟨some 26, some (24, true), .q (.mv (.t 1)), []⟩,
 ⟨some 27, some (24, true), .q (.bin .add (.t 26) (.v (.int .i64 1))), []⟩,
 ⟨some 28, some (24, true), .e (.call 96 [(.t 25), (.t 27), (.v (.int .i64 128)), (.v (.int .i64 191))]), []⟩,
 ⟨some 29, none, .q (.pick (.t 24) (.t 28) (.v (.bool false))), []⟩]
def c80_13 : ACode := .ops [
 ⟨some 4, none, .q (.mv (.v (.int .i64 2))), []⟩]
def c80_14 : ACode := .seq c80_13 .ret
def c80_15 : ACode := .cond (.t 29) c80_14 .skip
def c80_16 : ACode := .seq c80_12 c80_15
def c80_17 : ACode := .ops [
 ⟨some 6, none, .q (.mv (.v (.int .i64 128))), []⟩,
 ⟨some 7, none, .q (.mv (.v (.int .i64 191))), []⟩]
def c80_18 : ACode := .ops [
 ⟨some 30, none, .q (.mv (.t 5)), []⟩,
 ⟨some 31, none, .q (.bin .eql (.t 30) (.v (.int .i64 224))), []⟩,
 ⟨some 32, none, .q (.mv (.t 31)), []⟩,
 ⟨some 33, some (32, false), .q (.mv (.t 5)), []⟩,
 ⟨some 34, some (32, false), .q (.bin .eql (.t 33) (.v (.int .i64 240))), []⟩,
 ⟨some 35, none, .q (.pick (.t 32) (.v (.bool true)) (.t 34)), []⟩]
def c80_19 : ACode := .ops [
 ⟨some 6, none, .q (.mv (.v (.int .i64 160))), []⟩]
def c80_20 : ACode := .cond (.t 35) c80_19 .skip
def c80_21 : ACode := .seq c80_18 c80_20
def c80_22 : ACode := .ops [
 ⟨some 36, none, .q (.mv (.t 5)), []⟩,
 ⟨some 37, none, .q (.bin .eql (.t 36) (.v (.int .i64 240))), []⟩]
def c80_23 : ACode := .ops [
 ⟨some 6, none, .q (.mv (.v (.int .i64 144))), []⟩]
def c80_24 : ACode := .cond (.t 37) c80_23 .skip
def c80_25 : ACode := .seq c80_22 c80_24
def c80_26 : ACode := .ops [
 ⟨some 38, none, .q (.mv (.t 5)), []⟩,
 ⟨some 39, none, .q (.bin .eql (.t 38) (.v (.int .i64 237))), []⟩]
def c80_27 : ACode := .ops [
 ⟨some 7, none, .q (.mv (.v (.int .i64 159))), []⟩]
def c80_28 : ACode := .cond (.t 39) c80_27 .skip
def c80_29 : ACode := .seq c80_26 c80_28
def c80_30 : ACode := .ops [
 ⟨some 40, none, .q (.mv (.t 5)), []⟩,
 ⟨some 41, none, .q (.bin .eql (.t 40) (.v (.int .i64 244))), []⟩]
def c80_31 : ACode := .ops [
 ⟨some 7, none, .q (.mv (.v (.int .i64 143))), []⟩]
def c80_32 : ACode := .cond (.t 41) c80_31 .skip
def c80_33 : ACode := .seq c80_30 c80_32
def c80_34 : ACode := .ops [
 ⟨some 42, none, .q (.mv (.t 5)), []⟩,
 ⟨some 43, none, .q (.bin .geq (.t 42) (.v (.int .i64 224))), []⟩,
 ⟨some 44, none, .q (.mv (.t 43)), []⟩,
 ⟨some 45, some (44, true), .q (.mv (.t 5)), []⟩,
 ⟨some 46, some (44, true), .q (.bin .leq (.t 45) (.v (.int .i64 239))), []⟩,
 ⟨some 47, none, .q (.pick (.t 44) (.t 46) (.v (.bool false))), []⟩,
 ⟨some 48, none, .q (.mv (.t 47)), []⟩,
 ⟨some 49, some (48, true), .q (.mv (.t 0)), []⟩,
 ⟨some 50, some (48, true), .q (.mv (.t 1)), []⟩,
 ⟨some 51, some (48, true), .q (.bin .add (.t 50) (.v (.int .i64 1))), []⟩,
 ⟨some 52, some (48, true), .q (.mv (.t 6)), []⟩,
 ⟨some 53, some (48, true), .q (.mv (.t 7)), []⟩,
 ⟨some 54, some (48, true), .e (.call 96 [(.t 49), (.t 51), (.t 52), (.t 53)]), []⟩,
 ⟨some 55, none, .q (.pick (.t 48) (.t 54) (.v (.bool false))), []⟩,
 ⟨some 56, none, .q (.mv (.t 55)), []⟩,
 ⟨some 57, some (56, true), .q (.mv (.t 0)), []⟩,
 ⟨some 58, some (56, true), .q (.mv (.t 1)), []⟩,
 ⟨some 59, some (56, true), .q (.bin .add (.t 58) (.v (.int .i64 2))), []⟩,
 ⟨some 60, some (56, true), .e (.call 96 [(.t 57), (.t 59), (.v (.int .i64 128)), (.v (.int .i64 191))]), []⟩,
 ⟨some 61, none, .q (.pick (.t 56) (.t 60) (.v (.bool false))), []⟩]
def c80_35 : ACode := .ops [
 ⟨some 4, none, .q (.mv (.v (.int .i64 3))), []⟩]
def c80_36 : ACode := .seq c80_35 .ret
def c80_37 : ACode := .cond (.t 61) c80_36 .skip
def c80_38 : ACode := .seq c80_34 c80_37
def c80_39 : ACode := .ops [
 ⟨some 62, none, .q (.mv (.t 5)), []⟩,
 ⟨some 63, none, .q (.bin .geq (.t 62) (.v (.int .i64 240))), []⟩,
 ⟨some 64, none, .q (.mv (.t 63)), []⟩,
 ⟨some 65, some (64, true), .q (.mv (.t 5)), []⟩,
 ⟨some 66, some (64, true), .q (.bin .leq (.t 65) (.v (.int .i64 244))), []⟩,
 ⟨some 67, none, .q (.pick (.t 64) (.t 66) (.v (.bool false))), []⟩,
 ⟨some 68, none, .q (.mv (.t 67)), []⟩,
 ⟨some 69, some (68, true), .q (.mv (.t 0)), []⟩,
 ⟨some 70, some (68, true), .q (.mv (.t 1)), []⟩,
 ⟨some 71, some (68, true), .q (.bin .add (.t 70) (.v (.int .i64 1))), []⟩,
 ⟨some 72, some (68, true), .q (.mv (.t 6)), []⟩,
 ⟨some 73, some (68, true), .q (.mv (.t 7)), []⟩,
 ⟨some 74, some (68, true), .e (.call 96 [(.t 69), (.t 71), (.t 72), (.t 73)]), []⟩,
 ⟨some 75, none, .q (.pick (.t 68) (.t 74) (.v (.bool false))), []⟩,
 ⟨some 76, none, .q (.mv (.t 75)), []⟩,
 ⟨some 77, some (76, true), .q (.mv (.t 0)), []⟩,
 ⟨some 78, some (76, true), .q (.mv (.t 1)), []⟩,
 ⟨some 79, some (76, true), .q (.bin .add (.t 78) (.v (.int .i64 2))), []⟩,
 ⟨some 80, some (76, true), .e (.call 96 [(.t 77), (.t 79), (.v (.int .i64 128)), (.v (.int .i64 191))]), []⟩,
 ⟨some 81, none, .q (.pick (.t 76) (.t 80) (.v (.bool false))), []⟩,
 ⟨some 82, none, .q (.mv (.t 81)), []⟩,
 ⟨some 83, some (82, true), .q (.mv (.t 0)), []⟩,
 ⟨some 84, some (82, true), .q (.mv (.t 1)), []⟩,
 ⟨some 85, some (82, true), .q (.bin .add (.t 84) (.v (.int .i64 3))), []⟩,
 ⟨some 86, some (82, true), .e (.call 96 [(.t 83), (.t 85), (.v (.int .i64 128)), (.v (.int .i64 191))]), []⟩,
 ⟨some 87, none, .q (.pick (.t 82) (.t 86) (.v (.bool false))), []⟩]
def c80_40 : ACode := .ops [
 ⟨some 4, none, .q (.mv (.v (.int .i64 4))), []⟩]
def c80_41 : ACode := .seq c80_40 .ret
def c80_42 : ACode := .cond (.t 87) c80_41 .skip
def c80_43 : ACode := .seq c80_39 c80_42
def c80_44 : ACode := .ops [
 ⟨some 4, none, .q (.mv (.v (.int .i64 0))), []⟩]
def c80_45 : ACode := .seq c80_44 .ret
def c80_46 : ACode := .seq c80_43 c80_45
def c80_47 : ACode := .seq c80_38 c80_46
def c80_48 : ACode := .seq c80_33 c80_47
def c80_49 : ACode := .seq c80_29 c80_48
def c80_50 : ACode := .seq c80_25 c80_49
def c80_51 : ACode := .seq c80_21 c80_50
def c80_52 : ACode := .seq c80_17 c80_51
def c80_53 : ACode := .seq c80_16 c80_52
def c80_54 : ACode := .seq c80_11 c80_53
def c80_55 : ACode := .seq c80_6 c80_54
def c80_56 : ACode := .seq c80_5 c80_55
def c80_57 : ACode := .seq c80_0 c80_56
@[go_sem] theorem c80_0_wp : type_of% (wp_of c80_0.eq_1) := wp_of c80_0.eq_1
@[go_sem] theorem c80_1_wp : type_of% (wp_of c80_1.eq_1) := wp_of c80_1.eq_1
@[go_sem] theorem c80_2_wp : type_of% (wp_of c80_2.eq_1) := wp_of c80_2.eq_1
@[go_sem] theorem c80_3_wp : type_of% (wp_of c80_3.eq_1) := wp_of c80_3.eq_1
@[go_sem] theorem c80_4_wp : type_of% (wp_of c80_4.eq_1) := wp_of c80_4.eq_1
@[go_sem] theorem c80_5_wp : type_of% (wp_of c80_5.eq_1) := wp_of c80_5.eq_1
@[go_sem] theorem c80_6_wp : type_of% (wp_of c80_6.eq_1) := wp_of c80_6.eq_1
@[go_sem] theorem c80_7_wp : type_of% (wp_of c80_7.eq_1) := wp_of c80_7.eq_1
@[go_sem] theorem c80_8_wp : type_of% (wp_of c80_8.eq_1) := wp_of c80_8.eq_1
@[go_sem] theorem c80_9_wp : type_of% (wp_of c80_9.eq_1) := wp_of c80_9.eq_1
@[go_sem] theorem c80_10_wp : type_of% (wp_of c80_10.eq_1) := wp_of c80_10.eq_1
@[go_sem] theorem c80_11_wp : type_of% (wp_of c80_11.eq_1) := wp_of c80_11.eq_1
@[go_sem] theorem c80_12_wp : type_of% (wp_of c80_12.eq_1) := wp_of c80_12.eq_1
@[go_sem] theorem c80_13_wp : type_of% (wp_of c80_13.eq_1) := wp_of c80_13.eq_1
@[go_sem] theorem c80_14_wp : type_of% (wp_of c80_14.eq_1) := wp_of c80_14.eq_1
@[go_sem] theorem c80_15_wp : type_of% (wp_of c80_15.eq_1) := wp_of c80_15.eq_1
@[go_sem] theorem c80_16_wp : type_of% (wp_of c80_16.eq_1) := wp_of c80_16.eq_1
@[go_sem] theorem c80_17_wp : type_of% (wp_of c80_17.eq_1) := wp_of c80_17.eq_1
@[go_sem] theorem c80_18_wp : type_of% (wp_of c80_18.eq_1) := wp_of c80_18.eq_1
@[go_sem] theorem c80_19_wp : type_of% (wp_of c80_19.eq_1) := wp_of c80_19.eq_1
@[go_sem] theorem c80_20_wp : type_of% (wp_of c80_20.eq_1) := wp_of c80_20.eq_1
@[go_sem] theorem c80_21_wp : type_of% (wp_of c80_21.eq_1) := wp_of c80_21.eq_1
@[go_sem] theorem c80_22_wp : type_of% (wp_of c80_22.eq_1) := wp_of c80_22.eq_1
@[go_sem] theorem c80_23_wp : type_of% (wp_of c80_23.eq_1) := wp_of c80_23.eq_1
@[go_sem] theorem c80_24_wp : type_of% (wp_of c80_24.eq_1) := wp_of c80_24.eq_1
@[go_sem] theorem c80_25_wp : type_of% (wp_of c80_25.eq_1) := wp_of c80_25.eq_1
@[go_sem] theorem c80_26_wp : type_of% (wp_of c80_26.eq_1) := wp_of c80_26.eq_1
@[go_sem] theorem c80_27_wp : type_of% (wp_of c80_27.eq_1) := wp_of c80_27.eq_1
@[go_sem] theorem c80_28_wp : type_of% (wp_of c80_28.eq_1) := wp_of c80_28.eq_1
@[go_sem] theorem c80_29_wp : type_of% (wp_of c80_29.eq_1) := wp_of c80_29.eq_1
@[go_sem] theorem c80_30_wp : type_of% (wp_of c80_30.eq_1) := wp_of c80_30.eq_1
@[go_sem] theorem c80_31_wp : type_of% (wp_of c80_31.eq_1) := wp_of c80_31.eq_1
@[go_sem] theorem c80_32_wp : type_of% (wp_of c80_32.eq_1) := wp_of c80_32.eq_1
@[go_sem] theorem c80_33_wp : type_of% (wp_of c80_33.eq_1) := wp_of c80_33.eq_1
@[go_sem] theorem c80_34_wp : type_of% (wp_of c80_34.eq_1) := wp_of c80_34.eq_1
@[go_sem] theorem c80_35_wp : type_of% (wp_of c80_35.eq_1) := wp_of c80_35.eq_1
@[go_sem] theorem c80_36_wp : type_of% (wp_of c80_36.eq_1) := wp_of c80_36.eq_1
@[go_sem] theorem c80_37_wp : type_of% (wp_of c80_37.eq_1) := wp_of c80_37.eq_1
@[go_sem] theorem c80_38_wp : type_of% (wp_of c80_38.eq_1) := wp_of c80_38.eq_1
@[go_sem] theorem c80_39_wp : type_of% (wp_of c80_39.eq_1) := wp_of c80_39.eq_1
@[go_sem] theorem c80_40_wp : type_of% (wp_of c80_40.eq_1) := wp_of c80_40.eq_1
@[go_sem] theorem c80_41_wp : type_of% (wp_of c80_41.eq_1) := wp_of c80_41.eq_1
@[go_sem] theorem c80_42_wp : type_of% (wp_of c80_42.eq_1) := wp_of c80_42.eq_1
@[go_sem] theorem c80_43_wp : type_of% (wp_of c80_43.eq_1) := wp_of c80_43.eq_1
@[go_sem] theorem c80_44_wp : type_of% (wp_of c80_44.eq_1) := wp_of c80_44.eq_1
@[go_sem] theorem c80_45_wp : type_of% (wp_of c80_45.eq_1) := wp_of c80_45.eq_1
@[go_sem] theorem c80_46_wp : type_of% (wp_of c80_46.eq_1) := wp_of c80_46.eq_1
@[go_sem] theorem c80_47_wp : type_of% (wp_of c80_47.eq_1) := wp_of c80_47.eq_1
@[go_sem] theorem c80_48_wp : type_of% (wp_of c80_48.eq_1) := wp_of c80_48.eq_1
@[go_sem] theorem c80_49_wp : type_of% (wp_of c80_49.eq_1) := wp_of c80_49.eq_1
@[go_sem] theorem c80_50_wp : type_of% (wp_of c80_50.eq_1) := wp_of c80_50.eq_1
@[go_sem] theorem c80_51_wp : type_of% (wp_of c80_51.eq_1) := wp_of c80_51.eq_1
@[go_sem] theorem c80_52_wp : type_of% (wp_of c80_52.eq_1) := wp_of c80_52.eq_1
@[go_sem] theorem c80_53_wp : type_of% (wp_of c80_53.eq_1) := wp_of c80_53.eq_1
@[go_sem] theorem c80_54_wp : type_of% (wp_of c80_54.eq_1) := wp_of c80_54.eq_1
@[go_sem] theorem c80_55_wp : type_of% (wp_of c80_55.eq_1) := wp_of c80_55.eq_1
@[go_sem] theorem c80_56_wp : type_of% (wp_of c80_56.eq_1) := wp_of c80_56.eq_1
@[go_sem] theorem c80_57_wp : type_of% (wp_of c80_57.eq_1) := wp_of c80_57.eq_1
def c80 : AFn := ⟨88, [.t 4], c80_57⟩
set_option maxRecDepth 100000 in
theorem c80_ok : compF Tryz.prog Tryz.f80 = some c80 := by kernel_rfl
theorem a80 {args : List AV} {σ : ASt} {R : AV → ASt → Prop} (hl : args.length ≤ 88) (h : c80_57.wp Tryz.prog (RetQ [.t 4] R) (init args) σ) : ACalls Tryz.prog 80 args σ R := acalls_of Tryz.func80 c80_ok hl h
/-! 96: tabular/tabularref11.more -/
def c96_0 : ACode := .ops [
 ⟨some 8, none, .q (.mv (.v (.bool false))), []⟩]
def c96_1 : ACode := .ops [
 ⟨some 9, none, .q (.mv (.t 1)), []⟩,
 ⟨some 10, none, .q (.mv (.t 0)), []⟩,
 ⟨some 11, none, .q (.lenS (.t 10)), []⟩,
 ⟨some 12, none, .q (.bin .lss (.t 9) (.t 11)), []⟩,
 ⟨some 13, none, .q (.mv (.t 12)), []⟩,
 ⟨some 14, some (13, true), .q (.mv (.t 0)), []⟩,
 ⟨some 15, some (13, true), .q (.mv (.t 1)), []⟩,
 ⟨some 16, some (13, true), .q (.idx (.t 14) (.t 15)), []⟩,
 ⟨some 17, some (13, true), .q (.conv .i64 (.t 16)), []⟩,
 ⟨some 18, some (13, true), .q (.mv (.t 2)), []⟩,
 ⟨some 19, some (13, true), .q (.bin .geq (.t 17) (.t 18)), []⟩,
 ⟨some 20, none, .q (.pick (.t 13) (.t 19) (.v (.bool false))), []⟩,
 ⟨some 21, none, .q (.mv (.t 20)), []⟩,
 ⟨some 22, some (21, true), .q (.mv (.t 0)), []⟩,
 ⟨some 23, some (21, true), .q (.mv (.t 1)), []⟩,
 ⟨some 24, some (21, true), .q (.idx (.t 22) (.t 23)), []⟩,
 ⟨some 25, some (21, true), .q (.conv .i64 (.t 24)), []⟩,
 ⟨some 26, some (21, true), .q (.mv (.t 3)), []⟩,
 ⟨some 27, some (21, true), .q (.bin .leq (.t 25) (.t 26)), []⟩,
 ⟨some 28, none, .q (.pick (.t 21) (.t 27) (.v (.bool false))), []⟩,
 ⟨some 8, none, .q (.mv (.t 28)), []⟩]
def c96_2 : ACode := .seq c96_1 .ret
def c96_3 : ACode := .seq c96_0 c96_2
@[go_sem] theorem c96_0_wp : type_of% (wp_of c96_0.eq_1) := wp_of c96_0.eq_1
@[go_sem] theorem c96_1_wp : type_of% (wp_of c96_1.eq_1) := wp_of c96_1.eq_1
@[go_sem] theorem c96_2_wp : type_of% (wp_of c96_2.eq_1) := wp_of c96_2.eq_1
@[go_sem] theorem c96_3_wp : type_of% (wp_of c96_3.eq_1) := wp_of c96_3.eq_1
def c96 : AFn := ⟨29, [.t 8], c96_3⟩
set_option maxRecDepth 100000 in
theorem c96_ok : compF Tryz.prog Tryz.f96 = some c96 := by kernel_rfl
theorem a96 {args : List AV} {σ : ASt} {R : AV → ASt → Prop} (hl : args.length ≤ 29) (h : c96_3.wp Tryz.prog (RetQ [.t 8] R) (init args) σ) : ACalls Tryz.prog 96 args σ R := acalls_of Tryz.func96 c96_ok hl h
end Go.A
namespace Go.A
open Go.Proofs Go.Lib
set_option maxRecDepth 100000
set_option linter.unusedSimpArgs false
set_option linter.unusedVariables false
theorem sgF_step {k : Nat} {r : List UInt8} (h0 : r ≠ []) (hv : decodeL r ≠ (65533, 1)) : sgF (k + 1) r = (sgF k (r.drop (decodeL r).2)).map (· + 1) := by
  rw [sgF, if_neg h0, if_neg hv]
theorem sgT_fuel : ∀ (k m : Nat) (r : List UInt8), r.length < k → r.length < m → sgF k r = sgF m r
  | 0, _, r, h, _ => absurd h (Nat.not_lt_zero _)
  | _, 0, r, _, h => absurd h (Nat.not_lt_zero _)
  | k + 1, m + 1, r, h1, h2 => by
    rw [sgF, sgF]
    by_cases h0 : r = []
    · rw [if_pos h0, if_pos h0]
    · rw [if_neg h0, if_neg h0]
      split
      · rfl
      · have hw := decodeL_width r
        have hl := List.length_pos_iff.2 h0
        rw [sgT_fuel k m _ (by rw [List.length_drop]; omega) (by rw [List.length_drop]; omega)]
def sgT (r : List UInt8) : Option Nat := sgF (r.length + 1) r
theorem sgT_nil : sgT [] = some 0 := rfl
theorem sgT_bad {r : List UInt8} (h0 : r ≠ []) (hv : decodeL r = (65533, 1)) : sgT r = none := by
  unfold sgT
  rw [sgF, if_neg h0, if_pos hv]
theorem sgT_step {r : List UInt8} (h0 : r ≠ []) (hv : decodeL r ≠ (65533, 1)) : sgT r = (sgT (r.drop (decodeL r).2)).map (· + 1) := by
  unfold sgT
  rw [sgF_step h0 hv]
  have hw := decodeL_width r
  have hl := List.length_pos_iff.2 h0
  rw [sgT_fuel r.length ((r.drop (decodeL r).2).length + 1) _ (by rw [List.length_drop]; omega) (by omega)]
def sgAV (s : List UInt8) : AV := match sgT s with
  | some n => .tuple [.int .i64 n, .bool true]
  | none => .tuple [.int .i64 0, .bool false]
def moreP (s : List UInt8) (at' lo hi : Nat) : Bool := decide (at' < s.length ∧ lo ≤ (s.getD at' 0).toNat ∧ (s.getD at' 0).toNat ≤ hi)
theorem more_ok (s : List UInt8) (at' lo hi : Nat) (ha : at' ≤ 9000000000000000000) : Pure Tryz.prog 96 [.str s, .int .i64 at', .int .i64 lo, .int .i64 hi] (.bool (moreP s at' lo hi)) := by
  intro σ
  refine a96 (by simp) ?_
  unfold moreP
  by_cases h : at' < s.length
  · have h' : (at' : Int) < s.length := by omega
    have hx : s[at']? = some (s[at']'h) := List.getElem?_eq_getElem h
    obtain ⟨c, hc⟩ : ∃ c, s[at']'h = c := ⟨_, rfl⟩
    rw [hc] at hx
    have hg : s.getD at' 0 = c := by rw [List.getD_eq_getElem?_getD, hx]; rfl
    rw [hg]
    have hcb := u8_lt c
    by_cases h1 : lo ≤ c.toNat
    · have h1' : (lo : Int) ≤ c.toNat := by omega
      by_cases h2 : c.toNat ≤ hi
      · have h2' : (c.toNat : Int) ≤ hi := by omega
        rw [decide_eq_true ⟨h, h1, h2⟩]
        simp (disch := first | assumption | omega | (simp only [List.length_append, List.length_cons, List.length_nil]; omega)) only [go_sem, reduceCtorEq, Nat.reduceEqDiff, ↓reduceIte, h', hx, h1', h2']
        exact retC_by (by repeat' (first | exact Drop.refl _ | with_reducible refine Drop.off ?_ (by assumption))) (.refl _) ⟨rfl, rfl⟩
      · have h2' : ¬ (c.toNat : Int) ≤ hi := by omega
        rw [decide_eq_false (fun h => h2 h.2.2)]
        simp (disch := first | assumption | omega | (simp only [List.length_append, List.length_cons, List.length_nil]; omega)) only [go_sem, reduceCtorEq, Nat.reduceEqDiff, ↓reduceIte, h', hx, h1', h2']
        exact retC_by (by repeat' (first | exact Drop.refl _ | with_reducible refine Drop.off ?_ (by assumption))) (.refl _) ⟨rfl, rfl⟩
    · have h1' : ¬ (lo : Int) ≤ c.toNat := by omega
      rw [decide_eq_false (fun h => h1 h.2.1)]
      simp (disch := first | assumption | omega | (simp only [List.length_append, List.length_cons, List.length_nil]; omega)) only [go_sem, reduceCtorEq, Nat.reduceEqDiff, ↓reduceIte, h', hx, h1']
      exact retC_by (by repeat' (first | exact Drop.refl _ | with_reducible refine Drop.off ?_ (by assumption))) (.refl _) ⟨rfl, rfl⟩
  · have h' : ¬ (at' : Int) < s.length := by omega
    rw [decide_eq_false (fun h2 => h h2.1)]
    simp (disch := first | assumption | omega | (simp only [List.length_append, List.length_cons, List.length_nil]; omega)) only [go_sem, reduceCtorEq, Nat.reduceEqDiff, ↓reduceIte, h']
    exact retC_by (by repeat' (first | exact Drop.refl _ | with_reducible refine Drop.off ?_ (by assumption))) (.refl _) ⟨rfl, rfl⟩
def sigL (r : List UInt8) : Nat := if r = [] then 0 else if decodeL r = (65533, 1) then 0 else (decodeL r).2
def sigN (n b0 b1 b2 b3 : Nat) : Nat :=
  let lo := if b0 = 224 then 160 else if b0 = 240 then 144 else 128
  let hi := if b0 = 237 then 159 else if b0 = 244 then 143 else 191
  if b0 < 128 then 1
  else if 194 ≤ b0 ∧ b0 ≤ 223 ∧ (1 < n ∧ 128 ≤ b1 ∧ b1 ≤ 191) then 2
  else if 224 ≤ b0 ∧ b0 ≤ 239 ∧ (1 < n ∧ lo ≤ b1 ∧ b1 ≤ hi) ∧ (2 < n ∧ 128 ≤ b2 ∧ b2 ≤ 191) then 3
  else if 240 ≤ b0 ∧ b0 ≤ 244 ∧ (1 < n ∧ lo ≤ b1 ∧ b1 ≤ hi) ∧ (2 < n ∧ 128 ≤ b2 ∧ b2 ≤ 191) ∧ (3 < n ∧ 128 ≤ b3 ∧ b3 ≤ 191) then 4
  else 0
set_option maxHeartbeats 2000000 in
theorem sigN_eq {n b0 b1 b2 b3 : Nat} (h0 : b0 < 256) (h1 : b1 < 256) (h2 : b2 < 256) (h3 : b3 < 256) : sigN n b0 b1 b2 b3 = if decodeN n b0 b1 b2 b3 = (65533, 1) then 0 else (decodeN n b0 b1 b2 b3).2 := by
  have key : ∀ (x : Nat × Nat) (v : Nat), v = (if x = (65533, 1) then 0 else x.2) ↔ (x.1 = 65533 ∧ x.2 = 1 → v = 0) ∧ (¬ (x.1 = 65533 ∧ x.2 = 1) → v = x.2) := by
    intro x v
    obtain ⟨x1, x2⟩ := x
    simp only [Prod.mk.injEq]
    split
    · rename_i h; exact ⟨fun e => ⟨fun _ => e, fun hn => absurd h hn⟩, fun hh => hh.1 h⟩
    · rename_i h; exact ⟨fun e => ⟨fun hh => absurd hh h, fun _ => e⟩, fun hh => hh.2 h⟩
  rw [key]
  unfold sigN decodeN
  dsimp only
  by_cases c1 : b0 < 128
  · simp only [if_pos c1]; exact ⟨fun h => by omega, fun _ => trivial⟩
  simp only [if_neg c1]
  by_cases c2 : b0 / 32 = 6
  · rw [if_neg (show ¬ (224 ≤ b0 ∧ b0 ≤ 239 ∧ _) from fun h => by omega), if_neg (show ¬ (240 ≤ b0 ∧ b0 ≤ 244 ∧ _) from fun h => by omega)]
    rw [if_neg (show ¬ (b0 / 16 = 14 ∧ _) from fun h => by omega), if_neg (show ¬ (b0 / 8 = 30 ∧ _) from fun h => by omega)]
    repeat' split
    all_goals (dsimp only; omega)
  rw [if_neg (show ¬ (194 ≤ b0 ∧ b0 ≤ 223 ∧ _) from fun h => by omega), if_neg (show ¬ (b0 / 32 = 6 ∧ _) from fun h => by omega)]
  by_cases c3 : b0 / 16 = 14
  · rw [if_neg (show ¬ (240 ≤ b0 ∧ b0 ≤ 244 ∧ _) from fun h => by omega), if_neg (show ¬ (b0 / 8 = 30 ∧ _) from fun h => by omega)]
    rw [if_neg (show ¬ b0 = 240 by omega), if_neg (show ¬ b0 = 244 by omega)]
    repeat' split
    all_goals (dsimp only; omega)
  rw [if_neg (show ¬ (224 ≤ b0 ∧ b0 ≤ 239 ∧ _) from fun h => by omega), if_neg (show ¬ (b0 / 16 = 14 ∧ _) from fun h => by omega)]
  rw [if_neg (show ¬ b0 = 224 by omega), if_neg (show ¬ b0 = 237 by omega)]
  repeat' split
  all_goals (dsimp only; omega)
theorem sigL_N {r : List UInt8} (h : r ≠ []) : sigL r = sigN r.length (r.getD 0 0).toNat (r.getD 1 0).toNat (r.getD 2 0).toNat (r.getD 3 0).toNat := by
  unfold sigL
  rw [if_neg h, decodeL_N, sigN_eq (UInt8.toNat_lt _) (UInt8.toNat_lt _) (UInt8.toNat_lt _) (UInt8.toNat_lt _)]
theorem more_at (s : List UInt8) (p k lo hi : Nat) (hp : p + k ≤ 9000000000000000000) : Pure Tryz.prog 96 [.str s, .int .i64 ((p : Int) + k), .int .i64 lo, .int .i64 hi] (.bool (moreP s (p + k) lo hi)) := by
  have := more_ok s (p + k) lo hi hp
  rw [Int.natCast_add] at this
  exact this
theorem more_iff (s : List UInt8) (p k lo hi : Nat) (hp : p ≤ s.length) : moreP s (p + k) lo hi = true ↔ (k < (s.drop p).length ∧ lo ≤ ((s.drop p).getD k 0).toNat ∧ ((s.drop p).getD k 0).toNat ≤ hi) := by
  unfold moreP
  rw [decide_eq_true_eq, getD_dropU, List.length_drop]
  constructor
  · rintro ⟨h1, h2, h3⟩; exact ⟨by omega, h2, h3⟩
  · rintro ⟨h1, h2, h3⟩; exact ⟨by omega, h2, h3⟩
set_option maxHeartbeats 2000000 in
theorem rsign_ok (s : List UInt8) (p : Nat) (hp : p ≤ s.length) (hl : s.length ≤ 4611686018427387904) : Pure Tryz.prog 80 [.str s, .int .i64 p] (.int .i64 (sigL (s.drop p) : Nat)) := by
  intro σ
  refine a80 (by simp) ?_
  by_cases hlt : p < s.length
  · have hlt' : ¬ (s.length : Int) ≤ p := by omega
    have hne : s.drop p ≠ [] := by
      intro e
      have := congrArg List.length e
      rw [List.length_drop] at this
      simp at this
      omega
    have hx : s[p]? = some (s[p]'hlt) := List.getElem?_eq_getElem hlt
    obtain ⟨c, hc⟩ : ∃ c, s[p]'hlt = c := ⟨_, rfl⟩
    rw [hc] at hx
    have hb0 : ((s.drop p).getD 0 0).toNat = c.toNat := by rw [getD_dropU, List.getD_eq_getElem?_getD, Nat.add_zero, hx]; rfl
    rw [sigL_N hne, hb0]
    have hcb := u8_lt c
    have m1 := more_iff s p 1 128 191 hp
    have m2 := more_iff s p 2 128 191 hp
    have m3 := more_iff s p 3 128 191 hp
    have q1 := more_at s p 1 128 191 (by omega)
    have q2 := more_at s p 2 128 191 (by omega)
    have q3 := more_at s p 3 128 191 (by omega)
    have mm := fun lo hi => more_iff s p 1 lo hi hp
    have qq := fun lo hi => more_at s p 1 lo hi (by omega)
    generalize ((s.drop p).getD 1 0).toNat = b1 at *
    generalize ((s.drop p).getD 2 0).toNat = b2 at *
    generalize ((s.drop p).getD 3 0).toNat = b3 at *
    generalize (s.drop p).length = n at *
    obtain ⟨C, hC⟩ : ∃ C, c.toNat = C := ⟨_, rfl⟩
    rw [hC] at hcb ⊢
    have e1 : ((1 : Nat) : Int) = 1 := rfl
    have e2 : ((2 : Nat) : Int) = 2 := rfl
    have e3 : ((3 : Nat) : Int) = 3 := rfl
    have e128 : ((128 : Nat) : Int) = 128 := rfl
    have e191 : ((191 : Nat) : Int) = 191 := rfl
    rw [e1, e128, e191] at q1
    rw [e2, e128, e191] at q2
    rw [e3, e128, e191] at q3
    simp only [e1] at qq
    generalize hM1 : moreP s (p + 1) 128 191 = M1 at *
    generalize moreP s (p + 2) 128 191 = M2 at *
    generalize moreP s (p + 3) 128 191 = M3 at *
    obtain ⟨F, hF⟩ : ∃ F, F = ACode.wp Tryz.prog c80_47 := ⟨_, rfl⟩
    have tail : ∀ (a1 : AFr) (lo hi : Nat) (T : Nat), (a1 0 = .str s ∧ a1 1 = .int .i64 p ∧ a1 5 = .int .i64 C ∧ a1 6 = .int .i64 lo ∧ a1 7 = .int .i64 hi) →
        T = (if 224 ≤ C ∧ C ≤ 239 ∧ moreP s (p + 1) lo hi = true ∧ M2 = true then 3 else if 240 ≤ C ∧ C ≤ 244 ∧ moreP s (p + 1) lo hi = true ∧ M2 = true ∧ M3 = true then 4 else 0) → F (RetQ [.t 4] fun v σ' => v = .int .i64 T ∧ σ' = σ) a1 σ := by
      intro a1 lo hi T hf hT
      rw [hF]
      have q := qq lo hi
      generalize moreP s (p + 1) lo hi = M at *
      by_cases g1 : 224 ≤ C
      · have g1' : (224 : Int) ≤ C := by omega
        by_cases g2 : C ≤ 239
        · have g2' : (C : Int) ≤ 239 := by omega
          have g3' : ¬ (240 : Int) ≤ C := by omega
          simp (disch := first | assumption | omega | (simp only [List.length_append, List.length_cons, List.length_nil]; omega)) only [go_sem, reduceCtorEq, Nat.reduceEqDiff, ↓reduceIte, hf, g1', g2']
          refine q.use ?_
          cases M with
          | false =>
            rw [if_neg (by simp), if_neg (by simp)] at hT
            subst hT
            simp (disch := first | assumption | omega | (simp only [List.length_append, List.length_cons, List.length_nil]; omega)) only [go_sem, Nat.reduceEqDiff, ↓reduceIte, hf, g3']
            exact retC_by (by repeat' (first | exact Drop.refl _ | with_reducible refine Drop.off ?_ (by assumption))) (.refl _) ⟨rfl, rfl⟩
          | true =>
            simp (disch := first | assumption | omega | (simp only [List.length_append, List.length_cons, List.length_nil]; omega)) only [go_sem, reduceCtorEq, Nat.reduceEqDiff, ↓reduceIte, hf]
            refine q2.use ?_
            cases M2 with
            | false =>
              rw [if_neg (by simp), if_neg (by simp)] at hT
              subst hT
              simp (disch := first | assumption | omega | (simp only [List.length_append, List.length_cons, List.length_nil]; omega)) only [go_sem, Nat.reduceEqDiff, ↓reduceIte, hf, g3']
              exact retC_by (by repeat' (first | exact Drop.refl _ | with_reducible refine Drop.off ?_ (by assumption))) (.refl _) ⟨rfl, rfl⟩
            | true =>
              rw [if_pos ⟨g1, g2, rfl, rfl⟩] at hT
              subst hT
              simp (disch := first | assumption | omega | (simp only [List.length_append, List.length_cons, List.length_nil]; omega)) only [go_sem, Nat.reduceEqDiff, ↓reduceIte]
              exact retC_by (by repeat' (first | exact Drop.refl _ | with_reducible refine Drop.off ?_ (by assumption))) (.refl _) ⟨rfl, rfl⟩
        · have g2' : ¬ (C : Int) ≤ 239 := by omega
          have g3' : (240 : Int) ≤ C := by omega
          rw [if_neg (fun h => g2 h.2.1)] at hT
          by_cases g4 : C ≤ 244
          · have g4' : (C : Int) ≤ 244 := by omega
            simp (disch := first | assumption | omega | (simp only [List.length_append, List.length_cons, List.length_nil]; omega)) only [go_sem, reduceCtorEq, Nat.reduceEqDiff, ↓reduceIte, hf, g1', g2', g3', g4']
            refine q.use ?_
            cases M with
            | false =>
              rw [if_neg (by simp)] at hT
              subst hT
              simp (disch := first | assumption | omega | (simp only [List.length_append, List.length_cons, List.length_nil]; omega)) only [go_sem, Nat.reduceEqDiff, ↓reduceIte]
              exact retC_by (by repeat' (first | exact Drop.refl _ | with_reducible refine Drop.off ?_ (by assumption))) (.refl _) ⟨rfl, rfl⟩
            | true =>
              simp (disch := first | assumption | omega | (simp only [List.length_append, List.length_cons, List.length_nil]; omega)) only [go_sem, reduceCtorEq, Nat.reduceEqDiff, ↓reduceIte, hf]
              refine q2.use ?_
              cases M2 with
              | false =>
                rw [if_neg (by simp)] at hT
                subst hT
                simp (disch := first | assumption | omega | (simp only [List.length_append, List.length_cons, List.length_nil]; omega)) only [go_sem, Nat.reduceEqDiff, ↓reduceIte]
                exact retC_by (by repeat' (first | exact Drop.refl _ | with_reducible refine Drop.off ?_ (by assumption))) (.refl _) ⟨rfl, rfl⟩
              | true =>
                simp (disch := first | assumption | omega | (simp only [List.length_append, List.length_cons, List.length_nil]; omega)) only [go_sem, reduceCtorEq, Nat.reduceEqDiff, ↓reduceIte, hf]
                refine q3.use ?_
                cases M3 with
                | false =>
                  rw [if_neg (by simp)] at hT
                  subst hT
                  simp (disch := first | assumption | omega | (simp only [List.length_append, List.length_cons, List.length_nil]; omega)) only [go_sem, Nat.reduceEqDiff, ↓reduceIte]
                  exact retC_by (by repeat' (first | exact Drop.refl _ | with_reducible refine Drop.off ?_ (by assumption))) (.refl _) ⟨rfl, rfl⟩
                | true =>
                  rw [if_pos ⟨by omega, g4, rfl, rfl, rfl⟩] at hT
                  subst hT
                  simp (disch := first | assumption | omega | (simp only [List.length_append, List.length_cons, List.length_nil]; omega)) only [go_sem, Nat.reduceEqDiff, ↓reduceIte]
                  exact retC_by (by repeat' (first | exact Drop.refl _ | with_reducible refine Drop.off ?_ (by assumption))) (.refl _) ⟨rfl, rfl⟩
          · have g4' : ¬ (C : Int) ≤ 244 := by omega
            rw [if_neg (fun h => g4 h.2.1)] at hT
            subst hT
            simp (disch := first | assumption | omega | (simp only [List.length_append, List.length_cons, List.length_nil]; omega)) only [go_sem, Nat.reduceEqDiff, ↓reduceIte, hf, g1', g2', g3', g4']
            exact retC_by (by repeat' (first | exact Drop.refl _ | with_reducible refine Drop.off ?_ (by assumption))) (.refl _) ⟨rfl, rfl⟩
      · have g1' : ¬ (224 : Int) ≤ C := by omega
        have g3' : ¬ (240 : Int) ≤ C := by omega
        rw [if_neg (fun h => g1 h.1), if_neg (fun h => by omega)] at hT
        subst hT
        simp (disch := first | assumption | omega | (simp only [List.length_append, List.length_cons, List.length_nil]; omega)) only [go_sem, Nat.reduceEqDiff, ↓reduceIte, hf, g1', g3']
        exact retC_by (by repeat' (first | exact Drop.refl _ | with_reducible refine Drop.off ?_ (by assumption))) (.refl _) ⟨rfl, rfl⟩
    have hCw : IntKind.i64.wrap (C : Int) = C := by rw [IntKind.wrap_i64]; omega
    by_cases c1 : C < 128
    · have c1' : (C : Int) < 128 := by omega
      unfold sigN
      rw [if_pos c1]
      simp (disch := first | assumption | omega | (simp only [List.length_append, List.length_cons, List.length_nil]; omega)) only [go_sem, reduceCtorEq, Nat.reduceEqDiff, ↓reduceIte, hlt', hx, hC, hCw, c1']
      exact retC_by (by repeat' (first | exact Drop.refl _ | with_reducible refine Drop.off ?_ (by assumption))) (.refl _) ⟨rfl, rfl⟩
    have c1' : ¬ (C : Int) < 128 := by omega
    have step2 : ∀ (a1 : AFr), ¬ (194 ≤ C ∧ C ≤ 223 ∧ M1 = true) → (a1 0 = .str s ∧ a1 1 = .int .i64 p ∧ a1 5 = .int .i64 C) → ACode.wp Tryz.prog c80_52 (RetQ [.t 4] fun v σ' => v = .int .i64 (sigN n C b1 b2 b3 : Nat) ∧ σ' = σ) a1 σ := by
      intro a1 hno hf
      have fold : ∀ lo hi : Nat, lo = (if C = 224 then 160 else if C = 240 then 144 else 128) → hi = (if C = 237 then 159 else if C = 244 then 143 else 191) → sigN n C b1 b2 b3 = (if 224 ≤ C ∧ C ≤ 239 ∧ moreP s (p + 1) lo hi = true ∧ M2 = true then 3 else if 240 ≤ C ∧ C ≤ 244 ∧ moreP s (p + 1) lo hi = true ∧ M2 = true ∧ M3 = true then 4 else 0) := by
        intro lo hi hlo hhi
        unfold sigN
        dsimp only
        rw [← hlo, ← hhi, if_neg c1, if_neg (fun h => hno ⟨h.1, h.2.1, m1.2 h.2.2⟩)]
        simp only [mm lo hi, m2, m3]
      by_cases k1 : C = 224
      · have k1' : (C : Int) = 224 := by omega
        simp (disch := first | assumption | omega | (simp only [List.length_append, List.length_cons, List.length_nil]; omega)) only [go_sem, Nat.reduceEqDiff, Int.reduceEq, ↓reduceIte, hf, k1', ←hF]
        subst k1
        refine tail _ 160 191 _ ?_ (fold 160 191 (by simp) (by simp))
        simp (disch := first | assumption | omega | (simp only [List.length_append, List.length_cons, List.length_nil]; omega)) only [go_sem, reduceCtorEq, Nat.reduceEqDiff, ↓reduceIte, hf]
      have k1' : ¬ (C : Int) = 224 := by omega
      by_cases k2 : C = 240
      · have k2' : (C : Int) = 240 := by omega
        simp (disch := first | assumption | omega | (simp only [List.length_append, List.length_cons, List.length_nil]; omega)) only [go_sem, Nat.reduceEqDiff, Int.reduceEq, ↓reduceIte, hf, k2', ←hF]
        subst k2
        refine tail _ 144 191 _ ?_ (fold 144 191 (by simp) (by simp))
        simp (disch := first | assumption | omega | (simp only [List.length_append, List.length_cons, List.length_nil]; omega)) only [go_sem, reduceCtorEq, Nat.reduceEqDiff, ↓reduceIte, hf]
      have k2' : ¬ (C : Int) = 240 := by omega
      by_cases k3 : C = 237
      · have k3' : (C : Int) = 237 := by omega
        simp (disch := first | assumption | omega | (simp only [List.length_append, List.length_cons, List.length_nil]; omega)) only [go_sem, Nat.reduceEqDiff, Int.reduceEq, ↓reduceIte, hf, k3', ←hF]
        subst k3
        refine tail _ 128 159 _ ?_ (fold 128 159 (by simp) (by simp))
        simp (disch := first | assumption | omega | (simp only [List.length_append, List.length_cons, List.length_nil]; omega)) only [go_sem, reduceCtorEq, Nat.reduceEqDiff, ↓reduceIte, hf]
      have k3' : ¬ (C : Int) = 237 := by omega
      by_cases k4 : C = 244
      · have k4' : (C : Int) = 244 := by omega
        simp (disch := first | assumption | omega | (simp only [List.length_append, List.length_cons, List.length_nil]; omega)) only [go_sem, Nat.reduceEqDiff, Int.reduceEq, ↓reduceIte, hf, k4', ←hF]
        subst k4
        refine tail _ 128 143 _ ?_ (fold 128 143 (by simp) (by simp))
        simp (disch := first | assumption | omega | (simp only [List.length_append, List.length_cons, List.length_nil]; omega)) only [go_sem, reduceCtorEq, Nat.reduceEqDiff, ↓reduceIte, hf]
      have k4' : ¬ (C : Int) = 244 := by omega
      simp (disch := first | assumption | omega | (simp only [List.length_append, List.length_cons, List.length_nil]; omega)) only [go_sem, Nat.reduceEqDiff, ↓reduceIte, hf, k1', k2', k3', k4', ←hF]
      refine tail _ 128 191 _ ?_ (fold 128 191 (by rw [if_neg k1, if_neg k2]) (by rw [if_neg k3, if_neg k4]))
      simp (disch := first | assumption | omega | (simp only [List.length_append, List.length_cons, List.length_nil]; omega)) only [go_sem, reduceCtorEq, Nat.reduceEqDiff, ↓reduceIte, hf]
    obtain ⟨G, hG⟩ : ∃ G, G = ACode.wp Tryz.prog c80_52 := ⟨_, rfl⟩
    rw [← hG] at step2
    by_cases c2 : 194 ≤ C
    · have c2' : (194 : Int) ≤ C := by omega
      by_cases c3 : C ≤ 223
      · have c3' : (C : Int) ≤ 223 := by omega
        simp (disch := first | assumption | omega | (simp only [List.length_append, List.length_cons, List.length_nil]; omega)) only [go_sem, reduceCtorEq, Nat.reduceEqDiff, ↓reduceIte, hlt', hx, hC, hCw, c1', c2', c3', ←hG]
        refine q1.use ?_
        cases M1 with
        | true =>
          unfold sigN
          dsimp only
          rw [if_neg c1, if_pos ⟨c2, c3, m1.1 rfl⟩]
          simp (disch := first | assumption | omega | (simp only [List.length_append, List.length_cons, List.length_nil]; omega)) only [go_sem, Nat.reduceEqDiff, ↓reduceIte]
          exact retC_by (by repeat' (first | exact Drop.refl _ | with_reducible refine Drop.off ?_ (by assumption))) (.refl _) ⟨rfl, rfl⟩
        | false =>
          simp (disch := first | assumption | omega | (simp only [List.length_append, List.length_cons, List.length_nil]; omega)) only [go_sem, Nat.reduceEqDiff, ↓reduceIte]
          refine step2 _ (fun h => by cases h.2.2) ?_
          simp (disch := first | assumption | omega | (simp only [List.length_append, List.length_cons, List.length_nil]; omega)) only [go_sem, reduceCtorEq, Nat.reduceEqDiff, ↓reduceIte]
      · have c3' : ¬ (C : Int) ≤ 223 := by omega
        simp (disch := first | assumption | omega | (simp only [List.length_append, List.length_cons, List.length_nil]; omega)) only [go_sem, reduceCtorEq, Nat.reduceEqDiff, ↓reduceIte, hlt', hx, hC, hCw, c1', c2', c3', ←hG]
        refine step2 _ (fun h => c3 h.2.1) ?_
        simp (disch := first | assumption | omega | (simp only [List.length_append, List.length_cons, List.length_nil]; omega)) only [go_sem, reduceCtorEq, Nat.reduceEqDiff, ↓reduceIte]
    · have c2' : ¬ (194 : Int) ≤ C := by omega
      simp (disch := first | assumption | omega | (simp only [List.length_append, List.length_cons, List.length_nil]; omega)) only [go_sem, reduceCtorEq, Nat.reduceEqDiff, ↓reduceIte, hlt', hx, hC, hCw, c1', c2', ←hG]
      refine step2 _ (fun h => c2 h.1) ?_
      simp (disch := first | assumption | omega | (simp only [List.length_append, List.length_cons, List.length_nil]; omega)) only [go_sem, reduceCtorEq, Nat.reduceEqDiff, ↓reduceIte]
  · have hlt' : (s.length : Int) ≤ p := by omega
    rw [List.drop_eq_nil_of_le (by omega)]
    simp (disch := first | assumption | omega | (simp only [List.length_append, List.length_cons, List.length_nil]; omega)) only [go_sem, reduceCtorEq, Nat.reduceEqDiff, ↓reduceIte, hlt']
    exact retC_by (by repeat' (first | exact Drop.refl _ | with_reducible refine Drop.off ?_ (by assumption))) (.refl _) ⟨rfl, rfl⟩
theorem sigL_bad {r : List UInt8} (h0 : r ≠ []) (h : sigL r = 0) : sgT r = none := by
  unfold sigL at h
  rw [if_neg h0] at h
  by_cases hb : decodeL r = (65533, 1)
  · exact sgT_bad h0 hb
  · rw [if_neg hb] at h
    have := decodeL_width r
    omega
theorem sigL_step {r : List UInt8} (h0 : r ≠ []) (h : sigL r ≠ 0) : sgT r = (sgT (r.drop (sigL r))).map (· + 1) ∧ sigL r ≤ r.length := by
  unfold sigL at h ⊢
  rw [if_neg h0] at h ⊢
  by_cases hb : decodeL r = (65533, 1)
  · rw [if_pos hb] at h; exact absurd rfl h
  · rw [if_neg hb]
    exact ⟨sgT_step h0 hb, decodeL_le r h0⟩
set_option maxHeartbeats 1000000 in
theorem rsigns_ok (s : List UInt8) (hl : s.length ≤ 4611686018427387904) : Pure Tryz.prog 54 [.str s] (sgAV s) := by
  intro σ
  refine a54 (by simp) ?_
  obtain ⟨R, hR⟩ : ∃ R, sgT s = R := ⟨_, rfl⟩
  unfold sgAV
  rw [hR]
  simp (disch := first | assumption | omega | (simp only [List.length_append, List.length_cons, List.length_nil]; omega)) only [go_sem]
  refine wp_loop_on (fun (p : Nat) a s2 => p ≤ s.length ∧ (∃ n : Nat, R = (sgT (s.drop p)).map (· + n) ∧ n ≤ p ∧ a 4 = .int .i64 n) ∧ (a 0 = .str s ∧ a 5 = .int .i64 p) ∧ s2 = σ) (fun p => s.length - p) 0 ⟨Nat.zero_le _, ⟨0, ?_, Nat.le_refl _, ?_⟩, ?_, rfl⟩ ?_
  · rw [← hR, List.drop_zero]; cases sgT s <;> rfl
  · simp (disch := first | assumption | omega | (simp only [List.length_append, List.length_cons, List.length_nil]; omega)) only [go_sem, Nat.reduceEqDiff, ↓reduceIte]
  · simp (disch := first | assumption | omega | (simp only [List.length_append, List.length_cons, List.length_nil]; omega)) only [go_sem, reduceCtorEq, ↓reduceIte]
  rintro p a s2 ⟨hp, ⟨n, hm, hn, h4⟩, hf, rfl⟩
  by_cases hlt : p < s.length
  · have hlt' : (p : Int) < s.length := by omega
    have hne : s.drop p ≠ [] := by
      intro e
      have := congrArg List.length e
      rw [List.length_drop] at this
      simp at this
      omega
    have hS := rsign_ok s p hp hl
    have hbad := sigL_bad hne
    have hstep := sigL_step hne
    rw [List.length_drop] at hstep
    generalize sigL (s.drop p) = w at *
    by_cases hw : w = 0
    · have hw' : (w : Int) = 0 := by omega
      rw [hbad hw] at hm
      simp only [Option.map_none] at hm
      subst hm
      simp (disch := first | assumption | omega | (simp only [List.length_append, List.length_cons, List.length_nil]; omega)) only [go_sem, reduceCtorEq, Nat.reduceEqDiff, ↓reduceIte, hf, hlt']
      refine hS.use ?_
      simp (disch := first | assumption | omega | (simp only [List.length_append, List.length_cons, List.length_nil]; omega)) only [go_sem, Nat.reduceEqDiff, ↓reduceIte, hw']
      exact retC_by (by repeat' (first | exact Drop.refl _ | with_reducible refine Drop.off ?_ (by assumption))) (.refl _) ⟨rfl, rfl⟩
    · have hw' : ¬ (w : Int) = 0 := by omega
      obtain ⟨h1, h2⟩ := hstep hw
      rw [h1, List.drop_drop, Option.map_map] at hm
      simp (disch := first | assumption | omega | (simp only [List.length_append, List.length_cons, List.length_nil]; omega)) only [go_sem, reduceCtorEq, Nat.reduceEqDiff, ↓reduceIte, hf, hlt']
      refine hS.use ?_
      simp (disch := first | assumption | omega | (simp only [List.length_append, List.length_cons, List.length_nil]; omega)) only [go_sem, reduceCtorEq, Nat.reduceEqDiff, ↓reduceIte, hf, h4, hw']
      refine ⟨p + w, by omega, by omega, ⟨n + 1, ?_, by omega, rfl⟩, rfl⟩
      rw [hm]
      congr 1
      funext x
      simp only [Function.comp]
      omega
  · have hlt' : ¬ (p : Int) < s.length := by omega
    rw [List.drop_eq_nil_of_le (by omega), sgT_nil] at hm
    simp only [Option.map_some, Nat.zero_add] at hm
    subst hm
    simp (disch := first | assumption | omega | (simp only [List.length_append, List.length_cons, List.length_nil]; omega)) only [go_sem, reduceCtorEq, Nat.reduceEqDiff, ↓reduceIte, hf, h4, hlt']
    exact retC_by (by repeat' (first | exact Drop.refl _ | with_reducible refine Drop.off ?_ (by assumption))) (.refl _) ⟨rfl, rfl⟩
end Go.A
namespace Go.A
open Go.Proofs Go.Lib
set_option maxRecDepth 100000
set_option linter.unusedSimpArgs false
set_option linter.unusedVariables false
structure Pt where
  op : Int
  n : Int
  s : List UInt8
  a : Ref
  b : Ref
  deriving Inhabited
def Pt.cs (p : Pt) : List AV := [.int .i64 p.op, .int .i64 p.n, .str p.s, .int .i64 p.a.row, .int .i64 p.a.col, .bool p.a.absRow, .bool p.a.absCol, .int .i64 p.b.row, .int .i64 p.b.col, .bool p.b.absRow, .bool p.b.absCol]
def Pt.av (p : Pt) : AV := .agg p.cs
section
variable {p : Pt}
@[go_sem] theorem pt_0 : (Pt.cs p)[0]? = some (.int .i64 p.op) := id rfl
@[go_sem] theorem pt_1 : (Pt.cs p)[1]? = some (.int .i64 p.n) := id rfl
@[go_sem] theorem pt_2 : (Pt.cs p)[2]? = some (.str p.s) := id rfl
@[go_sem] theorem pt_len : (Pt.cs p).length = 11 := id rfl
@[go_sem] theorem pt_leaves : leaves (Pt.cs p) = true := id rfl
@[go_sem] theorem pt_take : (Pt.cs p).take 11 = Pt.cs p := id rfl
@[go_sem] theorem pt_ta : ((Pt.cs p).drop 3).take 4 = [.int .i64 p.a.row, .int .i64 p.a.col, .bool p.a.absRow, .bool p.a.absCol] := id rfl
@[go_sem] theorem pt_tb : ((Pt.cs p).drop 7).take 4 = [.int .i64 p.b.row, .int .i64 p.b.col, .bool p.b.absRow, .bool p.b.absCol] := id rfl
end
theorem Pt.get {l : List Pt} {i : Nat} {x : Pt} (h : l[i]? = some x) : (l.map Pt.av)[i]? = some (.agg x.cs) := by rw [List.getElem?_map, h]; rfl
def ndV (o m : Int) (s : List UInt8) (a b : Ref) (v : AV) : List AV := [.int .i64 o, .int .i64 m, .str s, .int .i64 a.row, .int .i64 a.col, .bool a.absRow, .bool a.absCol, .int .i64 b.row, .int .i64 b.col, .bool b.absRow, .bool b.absCol, v]
section
variable {o m : Int} {s : List UInt8} {a b : Ref} {v w : AV}
@[go_sem] theorem nv_0 : (ndV o m s a b v)[0]? = some (.int .i64 o) := id rfl
@[go_sem] theorem nv_11 : (ndV o m s a b v)[11]? = some v := id rfl
@[go_sem] theorem nv_len : (ndV o m s a b v).length = 12 := id rfl
@[go_sem] theorem nv_take : (ndV o m s a b v).take 12 = ndV o m s a b v := id rfl
@[go_sem] theorem nv_drop : (ndV o m s a b v).drop 12 = [] := id rfl
@[go_sem] theorem nv_put'' : (ndV o m s a b v).take 11 ++ [w] = ndV o m s a b w := id rfl
theorem nv_leaves (h : v.leaf = true) : leaves (ndV o m s a b v) = true := by
  cases v <;> first | rfl | cases h
end
theorem mod2 (x : Int) {m : Int} (hm : 0 < m) : (-m < x.tmod m ∧ x.tmod m < m) ∧ 0 ≤ (x.tmod m + m).tmod m ∧ (x.tmod m + m).tmod m < m := by
  have h1 := Int.lt_tmod_of_pos x hm
  have h2 := Int.tmod_lt_of_pos x hm
  exact ⟨⟨h1, h2⟩, Int.tmod_nonneg _ (by omega), Int.tmod_lt_of_pos _ hm⟩
def opG (x : Int) : Int := 1 + (x.tmod 23 + 23).tmod 23
def kkG (x : Int) : Int := (x.tmod 100000 + 100000).tmod 100000
def placeR (r : Ref) : Ref := ⟨(r.row.tmod 3000 + 3000).tmod 3000, (r.col.tmod 700 + 700).tmod 700, r.absRow, r.absCol⟩
def cntG (op kk : Int) : Nat := if op = 7 ∨ op = 8 ∨ op = 9 then 1 else if op = 22 then ((kk.tdiv 4).tmod 4).toNat else if 10 ≤ op ∧ op ≤ 21 then 2 else 0
def callL : List (List UInt8) := [[83, 85, 77], [73, 70], [88, 46, 89], [95, 65]]
def nodeG (p : Pt) (ks : List Nd) : Nd :=
  if opG p.op = 1 then .mk 1 (kkG p.n) [] .zero .zero ks
  else if opG p.op = 3 then .mk 3 ((kkG p.n).tmod 2) [] .zero .zero ks
  else if opG p.op = 4 then .mk 4 ((1 + (kkG p.n).tmod 7) * 10000) [] .zero .zero ks
  else if opG p.op = 2 then .mk 2 0 (if (sgT (p.s.take 20)).isSome = true then p.s.take 20 else []) .zero .zero ks
  else if opG p.op = 5 then .mk 5 0 [] (placeR p.a) .zero ks
  else if opG p.op = 6 then .mk 6 0 [] (placeR p.a) (placeR p.b) ks
  else if opG p.op = 23 then .mk 3 0 [] .zero .zero ks
  else if opG p.op = 22 then .mk 22 0 (callL.getD ((kkG p.n).tmod 4).toNat []) .zero .zero ks
  else .mk (opG p.op) 0 [] .zero .zero ks
def missN : Nd := .mk 23 0 [] .zero .zero []
def missG (op kk : Int) (ks : List Nd) : List Nd := if op = 22 ∧ 1 < ks.length ∧ kk.tmod 3 = 0 then missN :: ks.tail else ks
def growN (g : Nat → Nd × Nat) : Nat → Nat → List Nd × Nat
  | 0, i => ([], i)
  | c + 1, i => ((g i).1 :: (growN g c (g i).2).1, (growN g c (g i).2).2)
def growK (L : List Pt) : Nat → Nat → Nd × Nat
  | 0, i => (.mk 1 0 [] .zero .zero [], i)
  | k + 1, i => match L[i]? with
    | none => (.mk 1 0 [] .zero .zero [], i)
    | some p => (nodeG p (missG (opG p.op) (kkG p.n) (growN (growK L k) (cntG (opG p.op) (kkG p.n)) (i + 1)).1), (growN (growK L k) (cntG (opG p.op) (kkG p.n)) (i + 1)).2)
def growP (L : List Pt) : Nd := (growK (L.take 40) 41 0).1
theorem opG_rng (x : Int) : 1 ≤ opG x ∧ opG x ≤ 23 := by have := (mod2 x (m := 23) (by decide)).2; unfold opG; omega
theorem kkG_rng (x : Int) : 0 ≤ kkG x ∧ kkG x ≤ 99999 := by have := (mod2 x (m := 100000) (by decide)).2; unfold kkG; omega
theorem placeR_good (r : Ref) : (placeR r).good = true := by
  have h1 := (mod2 r.row (m := 3000) (by decide)).2
  have h2 := (mod2 r.col (m := 700) (by decide)).2
  unfold Ref.good placeR
  exact decide_eq_true ⟨h1.1, h1.2, h2.1, h2.2⟩
theorem cntG_le (op kk : Int) (h : 0 ≤ kk) : cntG op kk ≤ 3 := by
  unfold cntG
  repeat' split
  all_goals try omega
  have := Int.tmod_lt_of_pos (kk.tdiv 4) (show (0 : Int) < 4 by decide)
  omega
theorem growN_len (g : Nat → Nd × Nat) : ∀ c i, (growN g c i).1.length = c
  | 0, i => rfl
  | c + 1, i => by rw [growN, List.length_cons, growN_len g c]
theorem missG_len (op kk : Int) (ks : List Nd) : (missG op kk ks).length = ks.length := by
  unfold missG
  split
  · rename_i h
    rw [List.length_cons, List.length_tail]; omega
  · rfl
theorem growN_ge (g : Nat → Nd × Nat) (hg : ∀ i, i ≤ (g i).2) : ∀ c i, i ≤ (growN g c i).2
  | 0, i => Nat.le_refl _
  | c + 1, i => by rw [growN]; exact Nat.le_trans (hg i) (growN_ge g hg c _)
theorem growK_ge (L : List Pt) : ∀ k i, i ≤ (growK L k i).2
  | 0, i => Nat.le_refl _
  | k + 1, i => by
    rw [growK]
    split
    · exact Nat.le_refl _
    · have := growN_ge (growK L k) (growK_ge L k) (cntG (opG (‹Pt› : Pt).op) (kkG (‹Pt› : Pt).n)) (i + 1)
      dsimp only
      omega
theorem growN_le (g : Nat → Nd × Nat) (M : Nat) (hg : ∀ i, i ≤ M → (g i).2 ≤ M) : ∀ c i, i ≤ M → (growN g c i).2 ≤ M
  | 0, i, h => h
  | c + 1, i, h => by rw [growN]; exact growN_le g M hg c _ (hg i h)
theorem growK_le (L : List Pt) (M : Nat) (hM : L.length ≤ M) : ∀ k i, i ≤ M → (growK L k i).2 ≤ M
  | 0, i, h => h
  | k + 1, i, h => by
    rw [growK]
    split
    · exact h
    · rename_i p hp
      have hi : i < L.length := (List.getElem?_eq_some_iff.1 hp).1
      exact growN_le (growK L k) M (growK_le L M hM k) _ _ (by omega)
end Go.A
namespace Go.A
open Go.Proofs Go.Lib
set_option maxRecDepth 100000
set_option linter.unusedSimpArgs false
set_option linter.unusedVariables false
def zero12 : List AV := [.int .i64 0, .int .i64 0, .str [], .int .i64 0, .int .i64 0, .bool false, .bool false, .int .i64 0, .int .i64 0, .bool false, .bool false, .sl .full []]
theorem place_ok (r : Ref) : Pure Tryz.prog 55 [refAV r] (refAV (placeR r)) := by
  intro σ
  have m1 := mod2 r.row (m := 3000) (by decide)
  have m2 := mod2 r.col (m := 700) (by decide)
  obtain ⟨row, col, ar, ac⟩ := r
  unfold refAV placeR
  dsimp only at m1 m2 ⊢
  obtain ⟨x, hx⟩ : ∃ x, row.tmod 3000 = x := ⟨_, rfl⟩
  obtain ⟨y, hy⟩ : ∃ y, (x + 3000).tmod 3000 = y := ⟨_, rfl⟩
  obtain ⟨z, hz⟩ : ∃ z, col.tmod 700 = z := ⟨_, rfl⟩
  obtain ⟨w, hw⟩ : ∃ w, (z + 700).tmod 700 = w := ⟨_, rfl⟩
  rw [hx, hy] at m1 ⊢
  rw [hz, hw] at m2 ⊢
  refine a55 (by simp) ?_
  simp (disch := first | assumption | omega | (simp only [List.length_append, List.length_cons, List.length_nil]; omega)) only [go_sem]
  refine boxC_by rfl fun c hc => ?_
  simp (disch := first | assumption | omega | (simp only [List.length_append, List.length_cons, List.length_nil]; omega)) only [go_sem]
  refine allocC_by fun d hd => ?_
  have hcd : c ≠ d := by rintro rfl; rw [ASt.set_same] at hd; cases hd
  repeat (with_reducible replace hd := set_none hd; obtain ⟨_, _, hd⟩ := hd)
  have hsw : ∀ (ρ : ASt) (X Y Z : Option Role), ((ρ.set c X).set d Y).set c Z = (ρ.set c Z).set d Y := fun _ _ _ _ => set_mid hcd
  simp (disch := first | assumption | omega | (simp only [List.length_append, List.length_cons, List.length_nil]; omega)) only [go_sem, Nat.reduceEqDiff, Nat.reduceAdd, Nat.reduceLeDiff, ↓reduceIte, Bool.true_and, hx, hy, hz, hw, hsw, ASt.set_set]
  exact retC_by ((Drop.set hc).off (by assumption)) (.refl _) ⟨rfl, rfl⟩
theorem OwnSl.len {σ0 σ : ASt} {v : AV} {xs : List AV} {s : Nat} (h : OwnSl σ0 σ v xs s) : lenC v = some (.int .i64 xs.length) := by
  rcases h with ⟨rfl, rfl, rfl⟩ | ⟨b, c, rest, rfl, _⟩ <;> rfl
theorem OwnSl.leaf {σ0 σ : ASt} {v : AV} {xs : List AV} {s : Nat} (h : OwnSl σ0 σ v xs s) : v.leaf = true ∧ v.cells = [v] := by
  rcases h with ⟨rfl, rfl, rfl⟩ | ⟨b, c, rest, rfl, _⟩ <;> exact ⟨rfl, rfl⟩
theorem OwnSl.put {σ0 σ : ASt} {d : Nat} {r : Role} {v : AV} {xs : List AV} {s : Nat} (h : OwnSl σ0 σ v xs s) (hd : σ0 d = some r) (r' : Option Role) : OwnSl (σ0.set d r') (σ.set d r') v xs s := by
  rcases h with ⟨h1, h2, rfl⟩ | ⟨b, c, rest, h1, h2, h3, h4, rfl⟩
  · exact .inl ⟨h1, h2, rfl⟩
  · have hbd : b ≠ d := by rintro rfl; rw [hd] at h4; cases h4
    exact .inr ⟨b, c, rest, h1, h2, h3, by rw [ASt.set_ne hbd]; exact h4, set_swap hbd⟩
theorem deeps_map : ∀ l : List Nd, Go.A.deeps (l.map Nd.av) = l.map Nd.av
  | [] => rfl
  | x :: xs => by rw [List.map_cons, deeps_cons, Nd.deep x, deeps_map xs]
theorem leaf1 {v : AV} : leaves [v] = v.leaf := by simp [leaves]
theorem Drop.had {σ σ' : ASt} {b : Nat} {r : Role} (h : Drop σ σ') (hb : σ' b = some r) : σ b = some r := by
  rcases h b with h1 | h1
  · rw [← h1]; exact hb
  · rw [h1] at hb; cases hb
theorem Drop.nil {σ σ' : ASt} {b : Nat} (h : Drop σ σ') (hb : σ b = none) : σ' b = none := by
  rcases h b with h1 | h1
  · rw [h1]; exact hb
  · exact h1
set_option maxHeartbeats 8000000 in
theorem grow_le (L : List Pt) (hL : L.length ≤ 1000) : ∀ (k i : Nat), L.length + 1 ≤ i + k → i ≤ 2000 → Pure Tryz.prog 31 [.sl .shr (L.map Pt.av), .int .i64 i] (.tuple [(growK L k i).1.av, .int .i64 (growK L k i).2])
  | k, i, hk, hi => by
    intro σ
    by_cases hlt : i < L.length
    · obtain ⟨k, rfl⟩ : ∃ k', k = k' + 1 := ⟨k - 1, by omega⟩
      have ih : ∀ j, i + 1 ≤ j → j ≤ 2000 → Pure Tryz.prog 31 [.sl .shr (L.map Pt.av), .int .i64 j] (.tuple [(growK L k j).1.av, .int .i64 (growK L k j).2]) := fun j h1 h2 => grow_le L hL k j (by omega) h2
      have hmx := growK_le L 2000 (by omega) k
      have hge := growK_ge L k
      have hlt' : (i : Int) < L.length := by omega
      have hlt2 : ¬ (L.length : Int) ≤ i := by omega
      have hx : L[i]? = some (L[i]'hlt) := List.getElem?_eq_getElem hlt
      obtain ⟨p, hp⟩ : ∃ p, L[i]'hlt = p := ⟨_, rfl⟩
      rw [hp] at hx
      have hmp := Pt.get hx
      rw [growK, hx]
      dsimp only
      have hop := opG_rng p.op
      have hkk := kkG_rng p.n
      have hcn := cntG_le (opG p.op) (kkG p.n) hkk.1
      have m1 := mod2 p.op (m := 23) (by decide)
      have m2 := mod2 p.n (m := 100000) (by decide)
      obtain ⟨KS, hKS⟩ : ∃ KS, (growN (growK L k) (cntG (opG p.op) (kkG p.n)) (i + 1)).1 = KS := ⟨_, rfl⟩
      obtain ⟨J, hJ⟩ : ∃ J, (growN (growK L k) (cntG (opG p.op) (kkG p.n)) (i + 1)).2 = J := ⟨_, rfl⟩
      have hKl : KS.length = cntG (opG p.op) (kkG p.n) := by rw [← hKS, growN_len]
      rw [hKS, hJ]
      have hopu : opG p.op = 1 + (p.op.tmod 23 + 23).tmod 23 := rfl
      have hkku : kkG p.n = (p.n.tmod 100000 + 100000).tmod 100000 := rfl
      obtain ⟨x1, hx1⟩ : ∃ x, p.op.tmod 23 = x := ⟨_, rfl⟩
      obtain ⟨x2, hx2⟩ : ∃ x, (x1 + 23).tmod 23 = x := ⟨_, rfl⟩
      obtain ⟨y1, hy1⟩ : ∃ x, p.n.tmod 100000 = x := ⟨_, rfl⟩
      obtain ⟨y2, hy2⟩ : ∃ x, (y1 + 100000).tmod 100000 = x := ⟨_, rfl⟩
      rw [hx1, hx2] at m1 hopu
      rw [hy1, hy2] at m2 hkku
      obtain ⟨F, hF⟩ : ∃ F, F = ACode.wp Tryz.prog c31_87 := ⟨_, rfl⟩
      obtain ⟨cnt, hcnt⟩ : ∃ cnt, cntG (opG p.op) (kkG p.n) = cnt := ⟨_, rfl⟩
      rw [hcnt] at hcn hKS hJ hKl
      have fin : ∀ (b4 b6 b7 : Nat) (o m : Int) (s : List UInt8) (a b : Ref) (a1 : AFr), σ b4 = none → σ b6 = none → σ b7 = none → b4 ≠ b6 → b4 ≠ b7 → b6 ≠ b7 → (∀ ks, nodeG p ks = .mk o m s a b ks) → (o = 22 ↔ opG p.op = 22) →
          (a1 0 = .sl .shr (L.map Pt.av) ∧ a1 1 = .int .i64 ((i : Int) + 1) ∧ a1 4 = .ptr b4 0 ∧ a1 7 = .ptr b7 0 ∧ a1 8 = .int .i64 cnt ∧ a1 9 = .int .i64 (kkG p.n)) →
          F (RetQ [.c 4 (some 12), .t 5] fun v σ' => Go.A.deep v = .tuple [(nodeG p (missG (opG p.op) (kkG p.n) KS)).av, .int .i64 J] ∧ σ' = σ) a1 (((σ.set b4 (some (.obj zero12))).set b6 (some (.obj p.cs))).set b7 (some (.obj (ndV o m s a b (.sl .full []))))) := by
        intro b4 b6 b7 o m s a b a1 z4 z6 z7 n46 n47 n67 hN ho hf
        rw [hF]
        rw [hN]
        have h7t : ((σ.set b4 (some (.obj zero12))).set b6 (some (.obj p.cs))) b7 = none := by rw [ASt.set_ne (Ne.symm n67), ASt.set_ne (Ne.symm n47)]; exact z7
        have h4t : ((σ.set b4 (some (.obj zero12))).set b6 (some (.obj p.cs))) b4 = some (.obj zero12) := by rw [ASt.set_ne n46, ASt.set_same]
        have hD4 : ∀ X R : Option Role, Drop ((((σ.set b4 (some (.obj zero12))).set b6 (some (.obj p.cs))).set b7 R).set b4 X) σ := fun X R => (((Drop.set z4).off z6).off z7).off z4
        generalize (σ.set b4 (some (.obj zero12))).set b6 (some (.obj p.cs)) = τ at *
        obtain ⟨G, hG⟩ : ∃ G, G = ACode.wp Tryz.prog c31_86 := ⟨_, rfl⟩
        obtain ⟨H, hH⟩ : ∃ H, H = ACode.wp Tryz.prog c31_85 := ⟨_, rfl⟩
        have fin3 : ∀ (a1 : AFr) (σ1 : ASt) (v : AV) (XS : List AV) (ks : List Nd), OwnSl (τ.set b7 (some (.obj (ndV o m s a b v)))) σ1 v XS 12 → (∀ x ∈ XS, x.cells.length = 12) → Go.A.deeps XS = ks.map Nd.av → (a1 1 = .int .i64 J ∧ a1 4 = .ptr b4 0 ∧ a1 7 = .ptr b7 0) →
            H (RetQ [.c 4 (some 12), .t 5] fun v σ' => Go.A.deep v = .tuple [(Nd.mk o m s a b ks).av, .int .i64 J] ∧ σ' = σ) a1 σ1 := by
          intro a1 σ1 v XS ks hO hxl hdp hf
          rw [hH]
          have hb7 := hO.at (x := b7) (ASt.set_same _ _ _)
          have h40 : (τ.set b7 (some (.obj (ndV o m s a b v)))) b4 = some (.obj zero12) := by rw [ASt.set_ne n47]; exact h4t
          have hb4 := hO.at h40
          unfold zero12 at hb4
          have hnl := nv_leaves (o := o) (m := m) (s := s) (a := a) (b := b) hO.leaf.1
          have hO2 := hO.put h40 (some (.obj (ndV o m s a b v)))
          have hDz := hD4 (some (.obj (ndV o m s a b v))) (some (.obj (ndV o m s a b v)))
          have hz := hO2.fz hxl (fun x hx => hDz.nil hx)
          simp (disch := first | assumption | omega | (simp only [List.length_append, List.length_cons, List.length_nil]; omega)) only [go_sem, Nat.reduceEqDiff, Nat.reduceAdd, Nat.reduceLeDiff, ↓reduceIte, hf, hb7, hb4, hnl]
          refine retC_by (r := .tuple [.agg (ndV o m s a b (.sl .shr XS)), .int .i64 J]) (hO2.drop.trans hDz) ?_ ⟨by rw [Nd.av_cs, ← hdp]; rfl, rfl⟩
          exact .tuple (.cons (.agg (.cons (.refl _) (.cons (.refl _) (.cons (.refl _) (.cons (.refl _) (.cons (.refl _) (.cons (.refl _) (.cons (.refl _) (.cons (.refl _) (.cons (.refl _) (.cons (.refl _) (.cons (.refl _) (.cons hz .nil))))))))))))) (.cons (.refl _) .nil))
        have hKxl : ∀ x ∈ KS.map Nd.av, x.cells.length = 12 := by
          intro x hx
          obtain ⟨y, _, rfl⟩ := List.mem_map.1 hx
          exact Nd.av_len y
        have fin2 : ∀ (a1 : AFr) (σ1 : ASt) (v : AV), OwnSl (τ.set b7 (some (.obj (ndV o m s a b v)))) σ1 v (KS.map Nd.av) 12 → (a1 1 = .int .i64 J ∧ a1 4 = .ptr b4 0 ∧ a1 7 = .ptr b7 0 ∧ a1 9 = .int .i64 (kkG p.n)) →
            G (RetQ [.c 4 (some 12), .t 5] fun v σ' => Go.A.deep v = .tuple [(Nd.mk o m s a b (missG (opG p.op) (kkG p.n) KS)).av, .int .i64 J] ∧ σ' = σ) a1 σ1 := by
          intro a1 σ1 v hO hf
          rw [hG]
          have hb7 := hO.at (x := b7) (ASt.set_same _ _ _)
          have hlen := hO.len
          rw [List.length_map] at hlen
          by_cases h22 : o = 22
          · by_cases h1 : 1 < KS.length
            · have h1' : (1 : Int) < KS.length := by omega
              by_cases h3 : (kkG p.n).tmod 3 = 0
              · have hmiss : missG (opG p.op) (kkG p.n) KS = missN :: KS.tail := if_pos ⟨ho.1 h22, h1, h3⟩
                obtain ⟨x, KT, hKT⟩ : ∃ x KT, KS = x :: KT := by
                  cases KS with
                  | nil => simp at h1
                  | cons x KT => exact ⟨x, KT, rfl⟩
                have hmt : missN :: KS.tail = missN :: KT := by rw [hKT]; rfl
                rw [hmiss, hmt]
                rcases hO with ⟨he, _, _⟩ | ⟨bb, c, rest, hv, hc, hr, hbb, hs1⟩
                · rw [hKT] at he; cases he
                · rw [List.length_map] at hv
                  have hc1 : KS.length ≤ c := by simpa using hc
                  subst hv
                  have hbb7 : b7 ≠ bb := by rintro rfl; rw [ASt.set_same] at hbb; cases hbb
                  have hxl : x.av.cells.length = 12 := Nd.av_len x
                  obtain ⟨X, hX⟩ : ∃ X, (KS.map Nd.av).flatMap AV.cells ++ rest = X := ⟨_, rfl⟩
                  have hXl : 12 ≤ X.length := by rw [← hX, hKT, List.map_cons, List.flatMap_cons, List.length_append, List.length_append]; omega
                  have hXd : X.drop 12 = (KT.map Nd.av).flatMap AV.cells ++ rest := by
                    rw [← hX, hKT, List.map_cons, List.flatMap_cons, List.append_assoc, ← hxl, List.drop_left]
                  rw [hX] at hs1
                  have hbo : σ1 bb = some (.obj X) := by rw [hs1, ASt.set_same]
                  have hs2 : ∀ R : Option Role, σ1.set bb R = (τ.set b7 (some (.obj (ndV o m s a b (.msl bb 0 KS.length c))))).set bb R := fun R => by rw [hs1, ASt.set_set]
                  have hp0 : (0 : Int) < KS.length := by omega
                  simp (disch := first | assumption | omega | (simp only [List.length_append, List.length_cons, List.length_nil]; omega)) only [go_sem, Nat.reduceEqDiff, Nat.reduceAdd, Nat.reduceMul, Nat.reduceLeDiff, ↓reduceIte, Bool.true_and, hf, hb7, h22, h1', h3, hbo, hXl, hXd, hs2, ←hH]
                  subst h22
                  refine fin3 _ _ (.msl bb 0 KS.length c) (.agg [.int .i64 23, .int .i64 0, .str [], .int .i64 0, .int .i64 0, .bool false, .bool false, .int .i64 0, .int .i64 0, .bool false, .bool false, .sl .full []] :: KT.map Nd.av) (missN :: KT) (.inr ⟨bb, c, rest, ?_, ?_, ?_, hbb, rfl⟩) ?_ ?_ ?_
                  · rw [hKT]; simp
                  · rw [hKT] at hc1; simpa using hc1
                  · rw [hKT] at hr; simpa using hr
                  · intro y hy
                    rcases List.mem_cons.1 hy with rfl | hy
                    · rfl
                    · exact hKxl y (by rw [hKT, List.map_cons]; exact List.mem_cons_of_mem _ hy)
                  · rw [List.map_cons, missN, Nd.av_cs, deeps_cons, deeps_map]
                    rfl
                  · simp (disch := first | assumption | omega | (simp only [List.length_append, List.length_cons, List.length_nil]; omega)) only [go_sem, Nat.reduceEqDiff, ↓reduceIte, hf]
              · have hmiss : missG (opG p.op) (kkG p.n) KS = KS := if_neg (fun h => h3 h.2.2)
                rw [hmiss]
                simp (disch := first | assumption | omega | (simp only [List.length_append, List.length_cons, List.length_nil]; omega)) only [go_sem, Nat.reduceEqDiff, ↓reduceIte, hf, hb7, h22, hlen, h1', h3, ←hH]
                subst h22
                refine fin3 _ _ v _ KS hO hKxl (deeps_map KS) ?_
                simp (disch := first | assumption | omega | (simp only [List.length_append, List.length_cons, List.length_nil]; omega)) only [go_sem, Nat.reduceEqDiff, ↓reduceIte, hf]
            · have h1' : ¬ (1 : Int) < KS.length := by omega
              have hmiss : missG (opG p.op) (kkG p.n) KS = KS := if_neg (fun h => h1 h.2.1)
              rw [hmiss]
              simp (disch := first | assumption | omega | (simp only [List.length_append, List.length_cons, List.length_nil]; omega)) only [go_sem, Nat.reduceEqDiff, ↓reduceIte, hf, hb7, h22, hlen, h1', ←hH]
              subst h22
              refine fin3 _ _ v _ KS hO hKxl (deeps_map KS) ?_
              simp (disch := first | assumption | omega | (simp only [List.length_append, List.length_cons, List.length_nil]; omega)) only [go_sem, Nat.reduceEqDiff, ↓reduceIte, hf]
          · have hmiss : missG (opG p.op) (kkG p.n) KS = KS := if_neg (fun h => h22 (ho.2 h.1))
            rw [hmiss]
            simp (disch := first | assumption | omega | (simp only [List.length_append, List.length_cons, List.length_nil]; omega)) only [go_sem, Nat.reduceEqDiff, ↓reduceIte, hf, hb7, h22, ←hH]
            refine fin3 _ _ v _ KS hO hKxl (deeps_map KS) ?_
            simp (disch := first | assumption | omega | (simp only [List.length_append, List.length_cons, List.length_nil]; omega)) only [go_sem, Nat.reduceEqDiff, ↓reduceIte, hf]
        simp (disch := first | assumption | omega | (simp only [List.length_append, List.length_cons, List.length_nil]; omega)) only [go_sem, ←hG]
        refine wp_loop_by (fun (q : List Nd × Nat) a1 s2 => (q.1.length ≤ cnt ∧ i + 1 ≤ q.2 ∧ q.2 ≤ 2000 ∧ q.1 ++ (growN (growK L k) (cnt - q.1.length) q.2).1 = KS ∧ (growN (growK L k) (cnt - q.1.length) q.2).2 = J) ∧
            (a1 0 = .sl .shr (L.map Pt.av) ∧ a1 1 = .int .i64 q.2 ∧ a1 4 = .ptr b4 0 ∧ a1 7 = .ptr b7 0 ∧ a1 8 = .int .i64 ((cnt - q.1.length : Nat) : Int) ∧ a1 9 = .int .i64 (kkG p.n)) ∧
            ∃ v, OwnSl (τ.set b7 (some (.obj (ndV o m s a b v)))) s2 v (q.1.map Nd.av) 12) (fun q => cnt - q.1.length) ([], i + 1) (Dr.now ⟨⟨Nat.zero_le _, Nat.le_refl _, by dsimp only; omega, ?_, ?_⟩, ?_, .sl .full [], .inl ⟨rfl, rfl, rfl⟩⟩) ?_
        · simpa using hKS
        · simpa using hJ
        · simp only [List.length_nil, Nat.sub_zero]
          simp (disch := first | assumption | omega | (simp only [List.length_append, List.length_cons, List.length_nil]; omega)) only [go_sem, hf]
        rintro ⟨D, j⟩ a2 s2 ⟨⟨d1, d2, d2', d3, d4⟩, hf, v, hO⟩
        dsimp only at d1 d2 d2' d3 d4 hf hO
        have hb7 := hO.at (x := b7) (ASt.set_same _ _ _)
        by_cases hdl : D.length < cnt
        · have hdl' : (0 : Int) < ((cnt - D.length : Nat) : Int) := by omega
          have e1 : cnt - D.length = (cnt - (D.length + 1)) + 1 := by omega
          have e2 : ((cnt - D.length : Nat) : Int) - 1 = ((cnt - (D.length + 1) : Nat) : Int) := by omega
          rw [e1, growN] at d3 d4
          dsimp only at d3 d4
          have hcall := ih j d2 d2'
          have hj2 := hmx j d2'
          have hj1 := hge j
          obtain ⟨x, hxx⟩ : ∃ x, (growK L k j).1 = x := ⟨_, rfl⟩
          obtain ⟨j', hjj⟩ : ∃ x, (growK L k j).2 = x := ⟨_, rfl⟩
          rw [hxx, hjj] at d3 hcall
          rw [hjj] at d4 hj2 hj1
          have hDx : ((D ++ [x]).map Nd.av) = D.map Nd.av ++ [x.av] := by simp
          have hDl : (D ++ [x]).length = D.length + 1 := by simp
          have hDm : (D.map Nd.av).length = D.length := by simp
          have d3' : (D ++ [x]) ++ (growN (growK L k) (cnt - (D.length + 1)) j').1 = KS := by rw [← d3]; simp
          obtain ⟨xo, xm, xs, xa, xb, xk⟩ := x
          rw [Nd.av_cs] at hcall hDx
          generalize hXK : xk.map Nd.av = XK at *
          have hlD : ∀ y ∈ D.map Nd.av, y.cells.length = 12 := by
            intro y hy
            obtain ⟨z, _, rfl⟩ := List.mem_map.1 hy
            exact Nd.av_len z
          simp (disch := first | assumption | omega | (simp only [List.length_append, List.length_cons, List.length_nil]; omega)) only [go_sem, reduceCtorEq, Nat.reduceEqDiff, ↓reduceIte, hf, hdl']
          refine hcall.use ?_
          simp (disch := first | assumption | omega | (simp only [List.length_append, List.length_cons, List.length_nil]; omega)) only [go_sem, Nat.reduceEqDiff, ↓reduceIte]
          refine allocC_by fun e he => ?_
          have he7 : b7 ≠ e := by rintro rfl; rw [hb7] at he; cases he
          have he0 : τ e = none := by
            have := hO.fresh he
            rw [ASt.set_ne (Ne.symm he7)] at this
            exact this
          have hOe := hO.add (r := some (.obj (Nd.cs xo xm xs xa xb XK))) he
          have hb7e : (s2.set e (some (.obj (Nd.cs xo xm xs xa xb XK)))) b7 = some (.obj (ndV o m s a b v)) := by rw [ASt.set_ne he7]; exact hb7
          simp (disch := first | assumption | omega | (simp only [List.length_append, List.length_cons, List.length_nil]; omega)) only [go_sem, Nat.reduceEqDiff, Nat.reduceAdd, Nat.reduceLeDiff, ↓reduceIte, Bool.true_and, hf, hb7e, ASt.set_set]
          refine OwnSl.app hOe hlD rfl rfl (by rw [hDm]; simp only [List.length_cons, List.length_nil]; omega) (by rw [hDm]; simp only [List.length_cons, List.length_nil]; omega) (by simp) fun v' σ' ⟨σ2, hd, hO2⟩ => ?_
          have h70 : ((τ.set b7 (some (.obj (ndV o m s a b v)))).set e (some (.obj (Nd.cs xo xm xs xa xb XK)))) b7 = some (.obj (ndV o m s a b v)) := by rw [ASt.set_ne he7, ASt.set_same]
          have hb7' := hd.had (hO2.at h70)
          have hO3 := hO2.put h70 (some (.obj (ndV o m s a b v')))
          rw [set_mid he7] at hO3
          obtain ⟨σ5, hd5, hO5⟩ := hO3.less (by rw [ASt.set_ne (Ne.symm he7)]; exact he0)
          have hvl := hO2.leaf
          have hvc := hvl.2
          have hvv : leaves [v'] = true := by rw [leaf1]; exact hvl.1
          have hD5 : Drop (σ'.set b7 (some (.obj (ndV o m s a b v')))) σ5 := hd.set_cong.trans hd5
          simp (disch := first | assumption | omega | (simp only [List.length_append, List.length_cons, List.length_nil]; omega)) only [go_sem, Nat.reduceEqDiff, Nat.reduceAdd, Nat.reduceLeDiff, ↓reduceIte, hf, hb7', e2, hvc, hvv]
          refine ⟨(D ++ [Nd.mk xo xm xs xa xb xk], j'), by dsimp only; rw [hDl]; omega, Dr.drop hD5 ⟨⟨by dsimp only; omega, by dsimp only; omega, by dsimp only; omega, ?_, ?_⟩, ?_, v', ?_⟩⟩
          · dsimp only; rw [hDl]; exact d3'
          · dsimp only; rw [hDl]; exact d4
          · dsimp only
            rw [hDl]
            simp (disch := first | assumption | omega | (simp only [List.length_append, List.length_cons, List.length_nil]; omega)) only [go_sem, reduceCtorEq, Nat.reduceEqDiff, ↓reduceIte, hf]
          · dsimp only
            rw [hDx]; exact hO5
        · have hdl' : ¬ (0 : Int) < ((cnt - D.length : Nat) : Int) := by omega
          have e0 : cnt - D.length = 0 := by omega
          rw [e0, growN] at d3 d4
          dsimp only at d3 d4
          rw [List.append_nil] at d3
          subst d3 d4
          simp (disch := first | assumption | omega | (simp only [List.length_append, List.length_cons, List.length_nil]; omega)) only [go_sem, ↓reduceIte, hf, hdl']
          refine fin2 _ _ v hO ?_
          simp (disch := first | assumption | omega | (simp only [List.length_append, List.length_cons, List.length_nil]; omega)) only [go_sem, Nat.reduceEqDiff, ↓reduceIte, hf]
      refine ACalls.retd (K := fun v σ' => Go.A.deep v = .tuple [(nodeG p (missG (opG p.op) (kkG p.n) KS)).av, .int .i64 J] ∧ σ' = σ) ?_ (fun v σ' h => h)
      refine a31 (by simp) ?_
      simp (disch := first | assumption | omega | (simp only [List.length_append, List.length_cons, List.length_nil]; omega)) only [go_sem]
      refine allocC_by fun b4 hb4 => ?_
      have z4 := hb4
      simp (disch := first | assumption | omega | (simp only [List.length_append, List.length_cons, List.length_nil]; omega)) only [go_sem, reduceCtorEq, Nat.reduceEqDiff, Nat.reduceLeDiff, ↓reduceIte, hlt2, hmp]
      refine allocC_by fun b6 hb6 => ?_
      have z6' := hb6
      repeat (with_reducible replace hb6 := set_none hb6; obtain ⟨_, _, hb6⟩ := hb6)
      have z6 : σ b6 = none := by assumption
      have n46 : b4 ≠ b6 := by assumption
      obtain ⟨B, hB⟩ : ∃ B, B = ACode.wp Tryz.prog c31_88 := ⟨_, rfl⟩
      simp (disch := first | assumption | omega | (simp only [List.length_append, List.length_cons, List.length_nil]; omega)) only [go_sem, Nat.reduceEqDiff, Nat.reduceAdd, Nat.reduceLeDiff, ↓reduceIte, hx1, hx2, ←hopu, ASt.set_set]
      refine allocC_by fun b7 hb7 => ?_
      have z7' := hb7
      repeat (with_reducible replace hb7 := set_none hb7; obtain ⟨_, _, hb7⟩ := hb7)
      have z7 : σ b7 = none := by assumption
      have n47 : b4 ≠ b7 := by assumption
      have n67 : b6 ≠ b7 := by assumption
      simp (disch := first | assumption | omega | (simp only [List.length_append, List.length_cons, List.length_nil]; omega)) only [go_sem, Nat.reduceEqDiff, Nat.reduceAdd, Nat.reduceLeDiff, ↓reduceIte, Bool.true_and, hy1, hy2, ←hkku, ASt.set_set, ←hB]
      obtain ⟨Q, hQ⟩ : ∃ Q, Q = RetQ [.c 4 (some 12), .t 5] fun v σ' => Go.A.deep v = .tuple [(nodeG p (missG (opG p.op) (kkG p.n) KS)).av, .int .i64 J] ∧ σ' = σ := ⟨_, rfl⟩
      rw [← hQ] at fin
      have brs : ∀ (a1 : AFr), (a1 0 = .sl .shr (L.map Pt.av) ∧ a1 1 = .int .i64 ((i : Int) + 1) ∧ a1 4 = .ptr b4 0 ∧ a1 6 = .ptr b6 0 ∧ a1 7 = .ptr b7 0 ∧ a1 8 = .int .i64 0 ∧ a1 9 = .int .i64 (kkG p.n)) →
          B Q a1 (((σ.set b4 (some (.obj zero12))).set b6 (some (.obj p.cs))).set b7 (some (.obj [.int .i64 (opG p.op), .int .i64 0, .str [], .int .i64 0, .int .i64 0, .bool false, .bool false, .int .i64 0, .int .i64 0, .bool false, .bool false, .sl .full []]))) := by
        intro a1 hf
        rw [hB]
        clear hB hQ ih hmx hge hKS hJ z6' z7' hb6 hb7
        have hw7 : 0 ≤ (kkG p.n).tmod 7 ∧ (kkG p.n).tmod 7 < 7 := ⟨Int.tmod_nonneg _ hkk.1, Int.tmod_lt_of_pos _ (by decide)⟩
        obtain ⟨w7, hw7e⟩ : ∃ w, (kkG p.n).tmod 7 = w := ⟨_, rfl⟩
        rw [hw7e] at hw7
        generalize hzz : zero12 = Z12 at *
        by_cases h1 : opG p.op = 1
        · have hc : (cnt : Int) = 0 := by rw [← hcnt]; unfold cntG; rw [if_neg (by omega), if_neg (by omega), if_neg (by omega)]; rfl
          simp (disch := first | assumption | omega | (simp only [List.length_append, List.length_cons, List.length_nil]; omega)) only [go_sem, Nat.reduceEqDiff, Nat.reduceAdd, Nat.reduceLeDiff, ↓reduceIte, Bool.true_and, hf, h1, ASt.set_set, ←hF]
          refine fin b4 b6 b7 1 (kkG p.n) [] .zero .zero _ z4 z6 z7 n46 n47 n67 (fun ks => by unfold nodeG; rw [if_pos h1]) (by omega) ?_
          simp (disch := first | assumption | omega | (simp only [List.length_append, List.length_cons, List.length_nil]; omega)) only [go_sem, reduceCtorEq, Nat.reduceEqDiff, ↓reduceIte, hf, hc]
        by_cases h3 : opG p.op = 3
        · have hc : (cnt : Int) = 0 := by rw [← hcnt]; unfold cntG; rw [if_neg (by omega), if_neg (by omega), if_neg (by omega)]; rfl
          simp (disch := first | assumption | omega | (simp only [List.length_append, List.length_cons, List.length_nil]; omega)) only [go_sem, Nat.reduceEqDiff, Nat.reduceAdd, Nat.reduceLeDiff, Int.reduceEq, ↓reduceIte, Bool.true_and, hf, h3, ASt.set_set, ←hF]
          refine fin b4 b6 b7 3 ((kkG p.n).tmod 2) [] .zero .zero _ z4 z6 z7 n46 n47 n67 (fun ks => by unfold nodeG; rw [if_neg (by omega), if_pos h3]) (by omega) ?_
          simp (disch := first | assumption | omega | (simp only [List.length_append, List.length_cons, List.length_nil]; omega)) only [go_sem, reduceCtorEq, Nat.reduceEqDiff, ↓reduceIte, hf, hc]
        by_cases h4 : opG p.op = 4
        · have hc : (cnt : Int) = 0 := by rw [← hcnt]; unfold cntG; rw [if_neg (by omega), if_neg (by omega), if_neg (by omega)]; rfl
          simp (disch := first | assumption | omega | (simp only [List.length_append, List.length_cons, List.length_nil]; omega)) only [go_sem, Nat.reduceEqDiff, Nat.reduceAdd, Nat.reduceLeDiff, Int.reduceEq, ↓reduceIte, Bool.true_and, hf, h4, hw7e, ASt.set_set, ←hF]
          refine fin b4 b6 b7 4 ((1 + w7) * 10000) [] .zero .zero _ z4 z6 z7 n46 n47 n67 (fun ks => by unfold nodeG; rw [if_neg (by omega), if_neg (by omega), if_pos h4, hw7e]) (by omega) ?_
          simp (disch := first | assumption | omega | (simp only [List.length_append, List.length_cons, List.length_nil]; omega)) only [go_sem, reduceCtorEq, Nat.reduceEqDiff, ↓reduceIte, hf, hc]
        by_cases h2 : opG p.op = 2
        · have hc : (cnt : Int) = 0 := by rw [← hcnt]; unfold cntG; rw [if_neg (by omega), if_neg (by omega), if_neg (by omega)]; rfl
          have hC := lcut_ok p.s 20
          have hS := rsigns_ok (p.s.take 20) (by rw [List.length_take]; omega)
          rw [show (((20 : Nat)) : Int) = 20 from rfl] at hC
          unfold sgAV at hS
          cases hsg : sgT (p.s.take 20) with
          | some q =>
            rw [hsg] at hS
            dsimp only at hS
            have hN : ∀ ks, nodeG p ks = .mk 2 0 (p.s.take 20) .zero .zero ks := fun ks => by unfold nodeG; rw [if_neg (by omega), if_neg (by omega), if_neg (by omega), if_pos h2, hsg]; rfl
            simp (disch := first | assumption | omega | (simp only [List.length_append, List.length_cons, List.length_nil]; omega)) only [go_sem, Nat.reduceEqDiff, Int.reduceEq, ↓reduceIte, hf, h2, ←hF]
            refine hC.use ?_
            simp (disch := first | assumption | omega | (simp only [List.length_append, List.length_cons, List.length_nil]; omega)) only [go_sem, ↓reduceIte]
            refine hS.use ?_
            simp (disch := first | assumption | omega | (simp only [List.length_append, List.length_cons, List.length_nil]; omega)) only [go_sem, Nat.reduceEqDiff, ↓reduceIte, hf]
            refine hC.use ?_
            simp (disch := first | assumption | omega | (simp only [List.length_append, List.length_cons, List.length_nil]; omega)) only [go_sem, Nat.reduceEqDiff, Nat.reduceAdd, Nat.reduceLeDiff, ↓reduceIte, Bool.true_and, hf, ASt.set_set]
            refine fin b4 b6 b7 2 0 (p.s.take 20) .zero .zero _ z4 z6 z7 n46 n47 n67 hN (by omega) ?_
            simp (disch := first | assumption | omega | (simp only [List.length_append, List.length_cons, List.length_nil]; omega)) only [go_sem, reduceCtorEq, Nat.reduceEqDiff, ↓reduceIte, hf, hc]
          | none =>
            rw [hsg] at hS
            dsimp only at hS
            have hN : ∀ ks, nodeG p ks = .mk 2 0 [] .zero .zero ks := fun ks => by unfold nodeG; rw [if_neg (by omega), if_neg (by omega), if_neg (by omega), if_pos h2, hsg]; rfl
            simp (disch := first | assumption | omega | (simp only [List.length_append, List.length_cons, List.length_nil]; omega)) only [go_sem, Nat.reduceEqDiff, Int.reduceEq, ↓reduceIte, hf, h2, ←hF]
            refine hC.use ?_
            simp (disch := first | assumption | omega | (simp only [List.length_append, List.length_cons, List.length_nil]; omega)) only [go_sem, ↓reduceIte]
            refine hS.use ?_
            simp (disch := first | assumption | omega | (simp only [List.length_append, List.length_cons, List.length_nil]; omega)) only [go_sem, Nat.reduceEqDiff, ↓reduceIte]
            refine fin b4 b6 b7 2 0 [] .zero .zero _ z4 z6 z7 n46 n47 n67 hN (by omega) ?_
            simp (disch := first | assumption | omega | (simp only [List.length_append, List.length_cons, List.length_nil]; omega)) only [go_sem, reduceCtorEq, Nat.reduceEqDiff, ↓reduceIte, hf, hc]
        by_cases h5 : opG p.op = 5
        · have hc : (cnt : Int) = 0 := by rw [← hcnt]; unfold cntG; rw [if_neg (by omega), if_neg (by omega), if_neg (by omega)]; rfl
          have hpa := place_ok p.a
          unfold refAV at hpa
          simp (disch := first | assumption | omega | (simp only [List.length_append, List.length_cons, List.length_nil]; omega)) only [go_sem, Nat.reduceEqDiff, Nat.reduceAdd, Nat.reduceLeDiff, Int.reduceEq, ↓reduceIte, hf, h5, ←hF]
          refine hpa.use ?_
          simp (disch := first | assumption | omega | (simp only [List.length_append, List.length_cons, List.length_nil]; omega)) only [go_sem, Nat.reduceEqDiff, Nat.reduceAdd, Nat.reduceLeDiff, ↓reduceIte, Bool.true_and, hf, ASt.set_set]
          refine fin b4 b6 b7 5 0 [] (placeR p.a) .zero _ z4 z6 z7 n46 n47 n67 (fun ks => by unfold nodeG; rw [if_neg (by omega), if_neg (by omega), if_neg (by omega), if_neg (by omega), if_pos h5]) (by omega) ?_
          simp (disch := first | assumption | omega | (simp only [List.length_append, List.length_cons, List.length_nil]; omega)) only [go_sem, reduceCtorEq, Nat.reduceEqDiff, ↓reduceIte, hf, hc]
        by_cases h6 : opG p.op = 6
        · have hc : (cnt : Int) = 0 := by rw [← hcnt]; unfold cntG; rw [if_neg (by omega), if_neg (by omega), if_neg (by omega)]; rfl
          have hpa := place_ok p.a
          have hpb := place_ok p.b
          unfold refAV at hpa hpb
          simp (disch := first | assumption | omega | (simp only [List.length_append, List.length_cons, List.length_nil]; omega)) only [go_sem, Nat.reduceEqDiff, Nat.reduceAdd, Nat.reduceLeDiff, Int.reduceEq, ↓reduceIte, hf, h6, ←hF]
          refine hpa.use ?_
          simp (disch := first | assumption | omega | (simp only [List.length_append, List.length_cons, List.length_nil]; omega)) only [go_sem, Nat.reduceEqDiff, Nat.reduceAdd, Nat.reduceLeDiff, ↓reduceIte, Bool.true_and, hf, ASt.set_set]
          refine hpb.use ?_
          simp (disch := first | assumption | omega | (simp only [List.length_append, List.length_cons, List.length_nil]; omega)) only [go_sem, Nat.reduceEqDiff, Nat.reduceAdd, Nat.reduceLeDiff, ↓reduceIte, Bool.true_and, hf, ASt.set_set]
          refine fin b4 b6 b7 6 0 [] (placeR p.a) (placeR p.b) _ z4 z6 z7 n46 n47 n67 (fun ks => by unfold nodeG; rw [if_neg (by omega), if_neg (by omega), if_neg (by omega), if_neg (by omega), if_neg (by omega), if_pos h6]) (by omega) ?_
          simp (disch := first | assumption | omega | (simp only [List.length_append, List.length_cons, List.length_nil]; omega)) only [go_sem, reduceCtorEq, Nat.reduceEqDiff, ↓reduceIte, hf, hc]
        by_cases h7 : opG p.op = 7
        · have hc : (cnt : Int) = 1 := by rw [← hcnt]; unfold cntG; rw [if_pos (by omega)]; rfl
          simp (disch := first | assumption | omega | (simp only [List.length_append, List.length_cons, List.length_nil]; omega)) only [go_sem, Nat.reduceEqDiff, Int.reduceEq, ↓reduceIte, hf, h7, ←hF]
          refine fin b4 b6 b7 7 0 [] .zero .zero _ z4 z6 z7 n46 n47 n67 (fun ks => by unfold nodeG; rw [if_neg (by omega), if_neg (by omega), if_neg (by omega), if_neg (by omega), if_neg (by omega), if_neg (by omega), if_neg (by omega), if_neg (by omega), h7]) (by omega) ?_
          simp (disch := first | assumption | omega | (simp only [List.length_append, List.length_cons, List.length_nil]; omega)) only [go_sem, reduceCtorEq, Nat.reduceEqDiff, ↓reduceIte, hf, hc]
        by_cases h8 : opG p.op = 8
        · have hc : (cnt : Int) = 1 := by rw [← hcnt]; unfold cntG; rw [if_pos (by omega)]; rfl
          simp (disch := first | assumption | omega | (simp only [List.length_append, List.length_cons, List.length_nil]; omega)) only [go_sem, Nat.reduceEqDiff, Int.reduceEq, ↓reduceIte, hf, h8, ←hF]
          refine fin b4 b6 b7 8 0 [] .zero .zero _ z4 z6 z7 n46 n47 n67 (fun ks => by unfold nodeG; rw [if_neg (by omega), if_neg (by omega), if_neg (by omega), if_neg (by omega), if_neg (by omega), if_neg (by omega), if_neg (by omega), if_neg (by omega), h8]) (by omega) ?_
          simp (disch := first | assumption | omega | (simp only [List.length_append, List.length_cons, List.length_nil]; omega)) only [go_sem, reduceCtorEq, Nat.reduceEqDiff, ↓reduceIte, hf, hc]
        by_cases h9 : opG p.op = 9
        · have hc : (cnt : Int) = 1 := by rw [← hcnt]; unfold cntG; rw [if_pos (by omega)]; rfl
          simp (disch := first | assumption | omega | (simp only [List.length_append, List.length_cons, List.length_nil]; omega)) only [go_sem, Nat.reduceEqDiff, Int.reduceEq, ↓reduceIte, hf, h9, ←hF]
          refine fin b4 b6 b7 9 0 [] .zero .zero _ z4 z6 z7 n46 n47 n67 (fun ks => by unfold nodeG; rw [if_neg (by omega), if_neg (by omega), if_neg (by omega), if_neg (by omega), if_neg (by omega), if_neg (by omega), if_neg (by omega), if_neg (by omega), h9]) (by omega) ?_
          simp (disch := first | assumption | omega | (simp only [List.length_append, List.length_cons, List.length_nil]; omega)) only [go_sem, reduceCtorEq, Nat.reduceEqDiff, ↓reduceIte, hf, hc]
        by_cases h23 : opG p.op = 23
        · have hc : (cnt : Int) = 0 := by rw [← hcnt]; unfold cntG; rw [if_neg (by omega), if_neg (by omega), if_neg (by omega)]; rfl
          simp (disch := first | assumption | omega | (simp only [List.length_append, List.length_cons, List.length_nil]; omega)) only [go_sem, Nat.reduceEqDiff, Nat.reduceAdd, Nat.reduceLeDiff, Int.reduceEq, ↓reduceIte, Bool.true_and, hf, h23, ASt.set_set, ←hF]
          refine fin b4 b6 b7 3 0 [] .zero .zero _ z4 z6 z7 n46 n47 n67 (fun ks => by unfold nodeG; rw [if_neg (by omega), if_neg (by omega), if_neg (by omega), if_neg (by omega), if_neg (by omega), if_neg (by omega), if_pos h23]) (by omega) ?_
          simp (disch := first | assumption | omega | (simp only [List.length_append, List.length_cons, List.length_nil]; omega)) only [go_sem, reduceCtorEq, Nat.reduceEqDiff, ↓reduceIte, hf, hc]
        by_cases h22 : opG p.op = 22
        · have hu : 0 ≤ (kkG p.n).tdiv 4 ∧ (kkG p.n).tdiv 4 ≤ 25000 := by rw [Int.tdiv_eq_ediv_of_nonneg hkk.1]; omega
          have hw : 0 ≤ ((kkG p.n).tdiv 4).tmod 4 ∧ ((kkG p.n).tdiv 4).tmod 4 < 4 := ⟨Int.tmod_nonneg _ hu.1, Int.tmod_lt_of_pos _ (by decide)⟩
          have hr : 0 ≤ (kkG p.n).tmod 4 ∧ (kkG p.n).tmod 4 < 4 := ⟨Int.tmod_nonneg _ hkk.1, Int.tmod_lt_of_pos _ (by decide)⟩
          have hc : (cnt : Int) = ((kkG p.n).tdiv 4).tmod 4 := by rw [← hcnt]; unfold cntG; rw [if_neg (by omega), if_pos h22]; omega
          have hN : ∀ ks, nodeG p ks = .mk 22 0 (callL.getD ((kkG p.n).tmod 4).toNat []) .zero .zero ks := fun ks => by unfold nodeG; rw [if_neg (by omega), if_neg (by omega), if_neg (by omega), if_neg (by omega), if_neg (by omega), if_neg (by omega), if_neg (by omega), if_pos h22]
          obtain ⟨u, hue⟩ : ∃ u, (kkG p.n).tdiv 4 = u := ⟨_, rfl⟩
          rw [hue] at hu hw hc
          obtain ⟨w, hwe⟩ : ∃ w, u.tmod 4 = w := ⟨_, rfl⟩
          rw [hwe] at hw hc
          have hr4 : (kkG p.n).tmod 4 = 0 ∨ (kkG p.n).tmod 4 = 1 ∨ (kkG p.n).tmod 4 = 2 ∨ (kkG p.n).tmod 4 = 3 := by omega
          rcases hr4 with hr4 | hr4 | hr4 | hr4
          all_goals
            rw [hr4] at hN
            simp (disch := first | assumption | omega | (simp only [List.length_append, List.length_cons, List.length_nil]; omega)) only [go_sem, Nat.reduceEqDiff, Nat.reduceAdd, Nat.reduceLeDiff, Int.reduceEq, ↓reduceIte, Int.reduceToNat, Bool.true_and, hf, h22, hr4, hue, hwe, ASt.set_set, ←hF]
            refine fin b4 b6 b7 22 0 _ .zero .zero _ z4 z6 z7 n46 n47 n67 hN (by omega) ?_
            simp (disch := first | assumption | omega | (simp only [List.length_append, List.length_cons, List.length_nil]; omega)) only [go_sem, reduceCtorEq, Nat.reduceEqDiff, ↓reduceIte, hf, hc]
        have hc : (cnt : Int) = 2 := by rw [← hcnt]; unfold cntG; rw [if_neg (by omega), if_neg (by omega), if_pos (by omega)]; rfl
        simp (disch := first | assumption | omega | (simp only [List.length_append, List.length_cons, List.length_nil]; omega)) only [go_sem, Nat.reduceEqDiff, ↓reduceIte, hf, h1, h3, h4, h2, h5, h6, h7, h8, h9, h23, h22, ←hF]
        refine fin b4 b6 b7 (opG p.op) 0 [] .zero .zero _ z4 z6 z7 n46 n47 n67 (fun ks => by unfold nodeG; rw [if_neg (by omega), if_neg (by omega), if_neg (by omega), if_neg (by omega), if_neg (by omega), if_neg (by omega), if_neg (by omega), if_neg (by omega)]) (by omega) ?_
        simp (disch := first | assumption | omega | (simp only [List.length_append, List.length_cons, List.length_nil]; omega)) only [go_sem, reduceCtorEq, Nat.reduceEqDiff, ↓reduceIte, hf, hc]
      rw [← hQ]
      unfold zero12 at brs
      refine brs _ ?_
      simp (disch := first | assumption | omega | (simp only [List.length_append, List.length_cons, List.length_nil]; omega)) only [go_sem, reduceCtorEq, Nat.reduceEqDiff, ↓reduceIte]
    · have hlt' : ¬ (i : Int) < L.length := by omega
      have hge : (L.length : Int) ≤ i := by omega
      have hx : L[i]? = none := List.getElem?_eq_none (by omega)
      have hg : growK L k i = (.mk 1 0 [] .zero .zero [], i) := by
        cases k with
        | zero => rfl
        | succ k => rw [growK, hx]
      rw [hg]
      dsimp only
      rw [Nd.av_cs]
      refine a31 (by simp) ?_
      simp (disch := first | assumption | omega | (simp only [List.length_append, List.length_cons, List.length_nil]; omega)) only [go_sem]
      refine allocC_by fun b4 hb4 => ?_
      simp (disch := first | assumption | omega | (simp only [List.length_append, List.length_cons, List.length_nil]; omega)) only [go_sem, reduceCtorEq, Nat.reduceEqDiff, Nat.reduceAdd, Nat.reduceLeDiff, ↓reduceIte, Bool.true_and, hge, ASt.set_set]
      exact retC_by (Drop.set hb4) (.tuple (.cons (.agg (.cons (.refl _) (.cons (.refl _) (.cons (.refl _) (.cons (.refl _) (.cons (.refl _) (.cons (.refl _) (.cons (.refl _) (.cons (.refl _) (.cons (.refl _) (.cons (.refl _) (.cons (.refl _) (.cons (.sl _ _) .nil))))))))))))) (.cons (.refl _) .nil))) ⟨rfl, rfl⟩
termination_by k => k
end Go.A
namespace Go.A
open Go.Proofs
/-! 23: (*tabular/vint.Writer).Bytes -/
def c23_0 : ACode := .ops [
 ⟨some 2, none, .q (.mv (.v (.str []))), []⟩]
def c23_1 : ACode := .ops [
 ⟨some 3, none, .q (.mv (.t 0)), []⟩,
 ⟨some 4, none, .q (.nc (.t 3)), []⟩,
 ⟨some 5, none, .q (.fa 0 (.t 4)), []⟩,
 ⟨some 6, none, .q (.ld none (.t 5)), []⟩,
 ⟨some 7, none, .q (.b2s (.t 6)), []⟩,
 ⟨some 2, none, .q (.mv (.t 7)), []⟩]
def c23_2 : ACode := .seq c23_1 .ret
def c23_3 : ACode := .seq c23_0 c23_2
@[go_sem] theorem c23_0_wp : type_of% (wp_of c23_0.eq_1) := wp_of c23_0.eq_1
@[go_sem] theorem c23_1_wp : type_of% (wp_of c23_1.eq_1) := wp_of c23_1.eq_1
@[go_sem] theorem c23_2_wp : type_of% (wp_of c23_2.eq_1) := wp_of c23_2.eq_1
@[go_sem] theorem c23_3_wp : type_of% (wp_of c23_3.eq_1) := wp_of c23_3.eq_1
def c23 : AFn := ⟨8, [.t 2], c23_3⟩
set_option maxRecDepth 100000 in
theorem c23_ok : compF Tryz.prog Tryz.f23 = some c23 := by kernel_rfl
theorem a23 {args : List AV} {σ : ASt} {R : AV → ASt → Prop} (hl : args.length ≤ 8) (h : c23_3.wp Tryz.prog (RetQ [.t 2] R) (init args) σ) : ACalls Tryz.prog 23 args σ R := acalls_of Tryz.func23 c23_ok hl h
/-! 42: (*tabular/vint.Writer).Uint -/
def c42_0 : ACode := .ops [
 ⟨some 4, none, .q (.mv (.t 1)), []⟩,
 ⟨some 5, none, .q (.bin .gtr (.t 4) (.v (.int .u64 127))), []⟩]
def c42_1 : ACode := .cond (.t 5) .skip (.exit 0)
def c42_2 : ACode := .seq c42_0 c42_1
def c42_3 : ACode := .ops [
 ⟨some 8, none, .q (.mv (.t 0)), []⟩,
 ⟨some 9, none, .q (.mv (.t 0)), []⟩,
 ⟨some 10, none, .q (.nc (.t 9)), []⟩,
 ⟨some 11, none, .q (.fa 0 (.t 10)), []⟩,
 ⟨some 12, none, .q (.ld none (.t 11)), []⟩,
 ⟨some 13, none, .q (.mv (.t 1)), []⟩,
 ⟨some 14, none, .q (.conv .u8 (.t 13)), []⟩,
 ⟨some 15, none, .q (.bin .or (.t 14) (.v (.int .u8 128))), []⟩,
 ⟨some 16, none, .q (.bsl 1 [(.t 15)]), []⟩,
 ⟨some 17, none, .e (.app 5 1 1 [(.int .u8 0)] (.t 12) (.t 16)), []⟩,
 ⟨some 18, none, .q (.nc (.t 8)), []⟩,
 ⟨some 19, none, .q (.fa 0 (.t 18)), []⟩,
 ⟨none, none, .e (.store 1 (.t 19) (.t 17)), []⟩]
def c42_4 : ACode := .block 1 c42_3
def c42_5 : ACode := .ops [
 ⟨some 6, none, .q (.mv (.t 1)), []⟩,
 ⟨some 7, none, .q (.bin .shr (.t 6) (.v (.int .u64 7))), []⟩,
 ⟨some 1, none, .q (.mv (.t 7)), []⟩]
def c42_6 : ACode := .seq c42_4 c42_5
def c42_7 : ACode := .seq c42_2 c42_6
def c42_8 : ACode := .loop c42_7
def c42_9 : ACode := .block 0 c42_8
def c42_10 : ACode := .ops [
 ⟨some 20, none, .q (.mv (.t 0)), []⟩,
 ⟨some 21, none, .q (.mv (.t 0)), []⟩,
 ⟨some 22, none, .q (.nc (.t 21)), []⟩,
 ⟨some 23, none, .q (.fa 0 (.t 22)), []⟩,
 ⟨some 24, none, .q (.ld none (.t 23)), []⟩,
 ⟨some 25, none, .q (.mv (.t 1)), []⟩,
 ⟨some 26, none, .q (.conv .u8 (.t 25)), []⟩,
 ⟨some 27, none, .q (.bsl 1 [(.t 26)]), []⟩,
 ⟨some 28, none, .e (.app 5 1 1 [(.int .u8 0)] (.t 24) (.t 27)), []⟩,
 ⟨some 29, none, .q (.nc (.t 20)), []⟩,
 ⟨some 30, none, .q (.fa 0 (.t 29)), []⟩,
 ⟨none, none, .e (.store 1 (.t 30) (.t 28)), []⟩]
def c42_11 : ACode := .seq c42_9 c42_10
@[go_sem] theorem c42_0_wp : type_of% (wp_of c42_0.eq_1) := wp_of c42_0.eq_1
@[go_sem] theorem c42_1_wp : type_of% (wp_of c42_1.eq_1) := wp_of c42_1.eq_1
@[go_sem] theorem c42_2_wp : type_of% (wp_of c42_2.eq_1) := wp_of c42_2.eq_1
@[go_sem] theorem c42_3_wp : type_of% (wp_of c42_3.eq_1) := wp_of c42_3.eq_1
@[go_sem] theorem c42_4_wp : type_of% (wp_of c42_4.eq_1) := wp_of c42_4.eq_1
@[go_sem] theorem c42_5_wp : type_of% (wp_of c42_5.eq_1) := wp_of c42_5.eq_1
@[go_sem] theorem c42_6_wp : type_of% (wp_of c42_6.eq_1) := wp_of c42_6.eq_1
@[go_sem] theorem c42_7_wp : type_of% (wp_of c42_7.eq_1) := wp_of c42_7.eq_1
@[go_sem] theorem c42_8_wp : type_of% (wp_of c42_8.eq_1) := wp_of c42_8.eq_1
@[go_sem] theorem c42_9_wp : type_of% (wp_of c42_9.eq_1) := wp_of c42_9.eq_1
@[go_sem] theorem c42_10_wp : type_of% (wp_of c42_10.eq_1) := wp_of c42_10.eq_1
@[go_sem] theorem c42_11_wp : type_of% (wp_of c42_11.eq_1) := wp_of c42_11.eq_1
def c42 : AFn := ⟨31, [], c42_11⟩
set_option maxRecDepth 100000 in
theorem c42_ok : compF Tryz.prog Tryz.f42 = some c42 := by kernel_rfl
theorem a42 {args : List AV} {σ : ASt} {R : AV → ASt → Prop} (hl : args.length ≤ 31) (h : c42_11.wp Tryz.prog (RetQ [] R) (init args) σ) : ACalls Tryz.prog 42 args σ R := acalls_of Tryz.func42 c42_ok hl h
/-! 43: (*tabular/vint.Writer).Int -/
def c43_0 : ACode := .ops [
 ⟨some 4, none, .q (.mv (.t 0)), []⟩,
 ⟨some 5, none, .q (.mv (.t 1)), []⟩,
 ⟨some 6, none, .q (.conv .u64 (.t 5)), []⟩,
 ⟨some 7, none, .q (.bin .shl (.t 6) (.v (.int .u64 1))), []⟩,
 ⟨some 8, none, .q (.mv (.t 1)), []⟩,
 ⟨some 9, none, .q (.bin .shr (.t 8) (.v (.int .u64 63))), []⟩,
 ⟨some 10, none, .q (.conv .u64 (.t 9)), []⟩,
 ⟨some 11, none, .q (.bin .xor (.t 7) (.t 10)), []⟩,
 ⟨some 12, none, .e (.call 42 [(.t 4), (.t 11)]), []⟩]
@[go_sem] theorem c43_0_wp : type_of% (wp_of c43_0.eq_1) := wp_of c43_0.eq_1
def c43 : AFn := ⟨13, [], c43_0⟩
set_option maxRecDepth 100000 in
theorem c43_ok : compF Tryz.prog Tryz.f43 = some c43 := by kernel_rfl
theorem a43 {args : List AV} {σ : ASt} {R : AV → ASt → Prop} (hl : args.length ≤ 13) (h : c43_0.wp Tryz.prog (RetQ [] R) (init args) σ) : ACalls Tryz.prog 43 args σ R := acalls_of Tryz.func43 c43_ok hl h
/-! 44: (*tabular/vint.Writer).Text -/
def c44_0 : ACode := .ops [
 ⟨some 4, none, .q (.mv (.t 0)), []⟩,
 ⟨some 5, none, .q (.mv (.t 1)), []⟩,
 ⟨some 6, none, .q (.lenS (.t 5)), []⟩,
 ⟨some 7, none, .q (.conv .u64 (.t 6)), []⟩,
 ⟨some 8, none, .e (.call 42 [(.t 4), (.t 7)]), []⟩]
def c44_1 : ACode := .ops [
 ⟨some 9, none, .q (.mv (.t 0)), []⟩,
 ⟨some 10, none, .q (.mv (.t 0)), []⟩,
 ⟨some 11, none, .q (.nc (.t 10)), []⟩,
 ⟨some 12, none, .q (.fa 0 (.t 11)), []⟩,
 ⟨some 13, none, .q (.ld none (.t 12)), []⟩,
 ⟨some 14, none, .q (.mv (.t 1)), []⟩,
 ⟨some 15, none, .e (.apps 5 (.t 13) (.t 14)), []⟩,
 ⟨some 16, none, .q (.nc (.t 9)), []⟩,
 ⟨some 17, none, .q (.fa 0 (.t 16)), []⟩,
 ⟨none, none, .e (.store 1 (.t 17) (.t 15)), []⟩]
def c44_2 : ACode := .seq c44_0 c44_1
@[go_sem] theorem c44_0_wp : type_of% (wp_of c44_0.eq_1) := wp_of c44_0.eq_1
@[go_sem] theorem c44_1_wp : type_of% (wp_of c44_1.eq_1) := wp_of c44_1.eq_1
@[go_sem] theorem c44_2_wp : type_of% (wp_of c44_2.eq_1) := wp_of c44_2.eq_1
def c44 : AFn := ⟨18, [], c44_2⟩
set_option maxRecDepth 100000 in
theorem c44_ok : compF Tryz.prog Tryz.f44 = some c44 := by kernel_rfl
theorem a44 {args : List AV} {σ : ASt} {R : AV → ASt → Prop} (hl : args.length ≤ 18) (h : c44_2.wp Tryz.prog (RetQ [] R) (init args) σ) : ACalls Tryz.prog 44 args σ R := acalls_of Tryz.func44 c44_ok hl h
end Go.A
namespace Go.A
open Go.Proofs Go.Vint
set_option maxRecDepth 100000
set_option linter.unusedSimpArgs false
set_option linter.unusedVariables false
def W (σ0 : ASt) (b : Nat) (l : List UInt8) (σ : ASt) : Prop := ∃ k, Grown (σ0.set b (some (.obj [.sl k (bytesAV l)]))) σ k (bytesAV l).length 1
theorem W.cell {σ0 σ : ASt} {b : Nat} {l : List UInt8} {k : SK} (h : Grown (σ0.set b (some (.obj [.sl k (bytesAV l)]))) σ k (bytesAV l).length 1) : σ b = some (.obj [.sl k (bytesAV l)]) := h.at (ASt.set_same _ _ _)
theorem vb_app (l m : List UInt8) : bytesAV l ++ bytesAV m = bytesAV (l ++ m) := by simp [bytesAV]
theorem bytesAV_one {n : Int} (h0 : 0 ≤ n) (h1 : n < 256) : [AV.int .u8 n] = bytesAV [u8Of n] := by
  have := u8_nat (n := n.toNat) (by omega)
  simp only [bytesAV, u8Of, List.map_cons, List.map_nil, this]
  rw [Int.toNat_of_nonneg h0]
theorem W.app {σ0 σ : ASt} {b : Nat} {l m : List UInt8} {k k' : SK} (h : Grown (σ0.set b (some (.obj [.sl k (bytesAV l)]))) σ k' (bytesAV l ++ bytesAV m).length 1) :
    W σ0 b (l ++ m) (σ.set b (some (.obj [.sl k' (bytesAV l ++ bytesAV m)]))) := by
  rw [vb_app] at h ⊢
  exact ⟨k', h.obj⟩
theorem or128 (u : Int) : ((BitVec.ofInt 8 (u % 256) ||| BitVec.ofInt 8 128).toNat : Int) = 128 + u % 128 := by
  have h : IntKind.wrap .u8 ((BitVec.ofInt 8 (u % 256) ||| BitVec.ofInt 8 128).toNat : Int) = 128 + u % 128 := or_128 u
  rwa [IntKind.wrap_u8, Int.emod_eq_of_lt (by omega) (by omega)] at h
theorem fold64 {n : Int} (h1 : -9223372036854775808 ≤ n) (h2 : n ≤ 9223372036854775807) :
    ((BitVec.ofInt 64 (IntKind.wrap .u64 (IntKind.wrap .u64 n * 2)) ^^^ BitVec.ofInt 64 (IntKind.wrap .u64 (n / 9223372036854775808))).toNat : Int) = foldI n := by
  have h : IntKind.wrap .u64 ((BitVec.ofInt 64 (IntKind.wrap .u64 (IntKind.wrap .u64 n * 2)) ^^^ BitVec.ofInt 64 (IntKind.wrap .u64 (n / 9223372036854775808))).toNat : Int) = foldI n := fold_bits n h1 h2
  rwa [IntKind.wrap_u64, Int.emod_eq_of_lt (by omega) (by omega)] at h
theorem vappB {T : TypeId} {σ σ0 : ASt} {k k2 : SK} {xs z : List AV} {n m : Int} {K : AV → ASt → Prop} (h : Grown σ0 σ k xs.length 1) (hn : n = m) (h0 : 0 ≤ m) (h1 : m < 256) (hl : xs.length < 4611686018427)
    (hK : ∀ k' σ', Grown σ0 σ' k' (xs ++ bytesAV [u8Of m]).length 1 → K (.sl k' (xs ++ bytesAV [u8Of m])) σ') : appC T 1 1 z (.sl k xs) (.sl k2 [.int .u8 n]) σ K := by
  subst hn
  rw [bytesAV_one h0 h1]
  exact appC_by h rfl rfl (by simp [bytesAV]; omega) (by simp [bytesAV]; omega) hK
theorem wrap8 (u : Int) : IntKind.wrap .u8 u = u % 256 := IntKind.wrap_u8 u
theorem wuint_ok (σ0 : ASt) (b : Nat) (u : Int) (l : List UInt8) (σ : ASt) (hW : W σ0 b l σ) (h0 : 0 ≤ u) (h1 : u ≤ 18446744073709551615) (hl : l.length + (uintB u.toNat).length ≤ 1000000) :
    ACalls Tryz.prog 42 [.ptr b 0, .int .u64 u] σ fun v σ' => v = .tuple [] ∧ W σ0 b (l ++ uintB u.toNat) σ' := by
  obtain ⟨q, hq⟩ : ∃ q, l ++ uintB u.toNat = q := ⟨_, rfl⟩
  have hql : q.length ≤ 1000000 := by rw [← hq]; simpa using hl
  rw [hq]
  refine a42 (by simp) ?_
  simp (disch := first | assumption | omega | (simp only [List.length_append, List.length_cons, List.length_nil]; omega)) only [go_sem]
  refine wp_loop_on (fun (i : Int × List UInt8) a σ' => (0 ≤ i.1 ∧ i.1 ≤ 18446744073709551615 ∧ i.2 ++ uintB i.1.toNat = q) ∧ (a 0 = .ptr b 0 ∧ a 1 = .int .u64 i.1) ∧ W σ0 b i.2 σ') (fun i => i.1.toNat) (u, l) ⟨⟨h0, h1, hq⟩, ?_, hW⟩ ?_
  · simp (disch := first | assumption | omega | (simp only [List.length_append, List.length_cons, List.length_nil]; omega)) only [go_sem]
  rintro ⟨u, l⟩ a σ ⟨⟨h0, h1, hq⟩, hf, k, hg⟩
  dsimp only at h0 h1 hq hf hg
  have hb := W.cell hg
  have hll : l.length ≤ 1000000 := by rw [← hq] at hql; simp at hql; omega
  have hll' : (bytesAV l).length ≤ 1000000 := by simpa [bytesAV] using hll
  by_cases hu : 127 < u
  · have hw := wrap8 u
    simp (disch := first | assumption | omega | (simp only [List.length_append, List.length_cons, List.length_nil]; omega)) only [go_sem, reduceCtorEq, Nat.reduceEqDiff, ↓reduceIte, Bool.true_and, hf, hb, hu, hw]
    refine vappB hg (or128 u) (by omega) (by omega) (by omega) fun k' σ' hg' => ?_
    have hb' := (hg'.at (ASt.set_same _ _ _))
    simp (disch := first | assumption | omega | (simp only [List.length_append, List.length_cons, List.length_nil]; omega)) only [go_sem, reduceCtorEq, Nat.reduceEqDiff, Nat.reduceLeDiff, ↓reduceIte, Int.reduceToNat, Int.reducePow, Bool.true_and, hf, hb']
    refine ⟨(u / 128, l ++ [u8Of (128 + u % 128)]), by dsimp only; omega, ⟨by dsimp only; omega, by dsimp only; omega, ?_⟩, ?_, W.app hg'⟩
    · dsimp only
      rw [← hq, uintB_j (u := u) (by omega)]
      simp
    · simp (disch := first | assumption | omega | (simp only [List.length_append, List.length_cons, List.length_nil]; omega)) only [go_sem]
  · have hw := wrap8 u
    have hw2 : u % 256 = u := by omega
    rw [hw2] at hw
    have hu' := uintB_i h0 (by omega)
    rw [hu'] at hq
    subst hq
    simp (disch := first | assumption | omega | (simp only [List.length_append, List.length_cons, List.length_nil]; omega)) only [go_sem, reduceCtorEq, Nat.reduceEqDiff, ↓reduceIte, Bool.true_and, hf, hb, hu, hw]
    refine vappB hg rfl (by omega) (by omega) (by omega) fun k' σ' hg' => ?_
    have hb' := (hg'.at (ASt.set_same _ _ _))
    simp (disch := first | assumption | omega | (simp only [List.length_append, List.length_cons, List.length_nil]; omega)) only [go_sem, Nat.reduceEqDiff, Nat.reduceLeDiff, ↓reduceIte, Bool.true_and, hb']
    exact retC_by (Drop.refl _) (.refl _) ⟨rfl, W.app hg'⟩
theorem wint_ok (σ0 : ASt) (b : Nat) (n : Int) (l : List UInt8) (σ : ASt) (hW : W σ0 b l σ) (h1 : -9223372036854775808 ≤ n) (h2 : n ≤ 9223372036854775807) (hl : l.length + 10 ≤ 1000000) :
    ACalls Tryz.prog 43 [.ptr b 0, .int .i64 n] σ fun v σ' => v = .tuple [] ∧ W σ0 b (l ++ uintB (foldI n).toNat) σ' := by
  refine a43 (by simp) ?_
  obtain ⟨f0, f1⟩ := foldI_bd h1 h2
  simp (disch := first | assumption | omega | (simp only [List.length_append, List.length_cons, List.length_nil]; omega)) only [go_sem, Nat.reduceEqDiff, ↓reduceIte, Int.reduceToNat, Int.reducePow]
  refine ACalls.of_eq (congrArg (fun x => [AV.ptr b 0, AV.int .u64 x]) (fold64 h1 h2)) ?_
  refine (wuint_ok σ0 b (foldI n) l σ hW f0 f1 (by have := uintB_le f1; omega)).mono ?_
  rintro v σ' ⟨rfl, h⟩
  simp (disch := first | assumption | omega | (simp only [List.length_append, List.length_cons, List.length_nil]; omega)) only [go_sem]
  exact retC_by (Drop.refl _) (.refl _) ⟨rfl, h⟩
theorem wtext_ok (σ0 : ASt) (b : Nat) (s l : List UInt8) (σ : ASt) (hW : W σ0 b l σ) (hl : l.length + 10 + s.length ≤ 1000000) :
    ACalls Tryz.prog 44 [.ptr b 0, .str s] σ fun v σ' => v = .tuple [] ∧ W σ0 b (l ++ textB s) σ' := by
  refine a44 (by simp) ?_
  simp (disch := first | assumption | omega | (simp only [List.length_append, List.length_cons, List.length_nil]; omega)) only [go_sem, Nat.reduceEqDiff, ↓reduceIte]
  have hu := uintB_le (u := s.length) (by omega)
  rw [Int.toNat_natCast] at hu
  refine (wuint_ok σ0 b s.length l σ hW (by omega) (by omega) (by rw [Int.toNat_natCast]; omega)).mono ?_
  rintro v σ' ⟨rfl, k, hg⟩
  rw [Int.toNat_natCast] at hg
  have hb := W.cell hg
  simp (disch := first | assumption | omega | (simp only [List.length_append, List.length_cons, List.length_nil]; omega)) only [go_sem, reduceCtorEq, Nat.reduceEqDiff, ↓reduceIte, hb]
  have hlen : (bytesAV (l ++ uintB s.length)).length + s.length ≤ 140737488355328 := by simp [bytesAV]; omega
  refine appsC_by hg hlen fun k' σ' hg' => ?_
  have hb' := (hg'.at (ASt.set_same _ _ _))
  simp (disch := first | assumption | omega | (simp only [List.length_append, List.length_cons, List.length_nil]; omega)) only [go_sem, Nat.reduceEqDiff, Nat.reduceLeDiff, ↓reduceIte, Bool.true_and, hb']
  refine retC_by (Drop.refl _) (.refl _) ⟨rfl, ?_⟩
  have : l ++ textB s = (l ++ uintB s.length) ++ s := by simp [textB]
  rw [this]
  refine W.app (k := k) ?_
  rw [List.length_append, bytesAV_length (l := s)]
  exact hg'
theorem wbytes_ok (σ0 : ASt) (b : Nat) (l : List UInt8) (σ : ASt) (hW : W σ0 b l σ) : ACalls Tryz.prog 23 [.ptr b 0] σ fun v σ' => v = .str l ∧ σ' = σ := by
  obtain ⟨k, hg⟩ := hW
  have hb := W.cell hg
  refine a23 (by simp) ?_
  simp (disch := first | assumption | omega | (simp only [List.length_append, List.length_cons, List.length_nil]; omega)) only [go_sem, reduceCtorEq, ↓reduceIte, hb]
  exact retC_by (Drop.refl _) (.refl _) ⟨rfl, rfl⟩
theorem W.add {σ0 σ : ASt} {b c : Nat} {l : List UInt8} {r : Role} (h : W σ0 b l σ) (hc : σ c = none) : W (σ0.set c (some r)) b l (σ.set c (some r)) ∧ c ≠ b ∧ σ0 c = none := by
  obtain ⟨k, hg⟩ := h
  have hb := W.cell hg
  have hcb : c ≠ b := by rintro rfl; rw [hb] at hc; cases hc
  have h0 : σ0 c = none := by
    rcases hg with ⟨_, _, rfl⟩ | ⟨t, T, _, _, rfl⟩
    · rwa [ASt.set_ne hcb] at hc
    · obtain ⟨_, _, hc⟩ := set_none hc
      rwa [ASt.set_ne hcb] at hc
  refine ⟨⟨k, ?_⟩, hcb, h0⟩
  rcases hg with ⟨h1, h2, rfl⟩ | ⟨t, T, h1, h2, rfl⟩
  · exact .inl ⟨h1, h2, set_swap (Ne.symm hcb)⟩
  · obtain ⟨h3, h4, _⟩ := set_none hc
    obtain ⟨h5, h6, h7⟩ := set_none h2
    refine .inr ⟨t, T, h1, ?_, ?_⟩
    · rw [ASt.set_ne h5, ASt.set_ne (Ne.symm h3)]; exact h7
    · rw [set_swap h4, set_swap (Ne.symm hcb)]
theorem W.off {σ0 σ : ASt} {b c : Nat} {l : List UInt8} {r : Role} (h : W (σ0.set c (some r)) b l σ) (hcb : c ≠ b) (hc : σ0 c = none) : ∃ σ', Drop σ σ' ∧ W σ0 b l σ' ∧ σ = σ'.set c (some r) := by
  obtain ⟨k, hg⟩ := h
  rcases hg with ⟨h1, h2, rfl⟩ | ⟨t, T, h1, h2, rfl⟩
  · refine ⟨σ0.set b (some (.obj [.sl k (bytesAV l)])), ?_, ⟨k, .inl ⟨h1, h2, rfl⟩⟩, (set_swap hcb)⟩
    rw [set_swap hcb]
    exact Drop.set (by rw [ASt.set_ne hcb]; exact hc)
  · obtain ⟨h3, h4, h5⟩ := set_none h2
    obtain ⟨h6, h7, h8⟩ := set_none h5
    have e : ((σ0.set c (some r)).set b (some (.obj [.sl k (bytesAV l)]))).set t (some (.tok ((bytesAV l).length * 1))) = ((σ0.set b (some (.obj [.sl k (bytesAV l)]))).set t (some (.tok ((bytesAV l).length * 1)))).set c (some r) := by
      rw [set_swap hcb, set_swap h7]
    refine ⟨(σ0.set b (some (.obj [.sl k (bytesAV l)]))).set t (some (.tok ((bytesAV l).length * 1))), ?_, ⟨k, .inr ⟨t, T, h1, ?_, rfl⟩⟩, e⟩
    · rw [e]
      exact Drop.set (by rw [ASt.set_ne h7, ASt.set_ne hcb]; exact hc)
    · rw [ASt.set_ne h3]; exact h8
theorem W.role {σ0 σ : ASt} {b c : Nat} {l : List UInt8} {r : Role} (h : W (σ0.set c (some r)) b l σ) (hcb : c ≠ b) : σ c = some r := by
  obtain ⟨k, hg⟩ := h
  exact hg.at (by rw [ASt.set_ne hcb, ASt.set_same])
end Go.A
