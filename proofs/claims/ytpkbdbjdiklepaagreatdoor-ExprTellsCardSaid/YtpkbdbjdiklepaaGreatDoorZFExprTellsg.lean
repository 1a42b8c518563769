/- Part 7 of what ExprTells leans on: CodeEj Ej CodeRa Ra Sd Ye Qe Qf Qd Qg CodeEl. -/
import Derived.Test.YtpkbdbjdiklepaaGreatDoorProg
import Derived.KernelRfl
import Derived.Test.YtpkbdbjdiklepaaGreatDoorZFExprTellsf
set_option linter.defProp false
set_option linter.unusedSimpArgs false
set_option linter.unusedVariables false
set_option maxRecDepth 100000
namespace Go.A
open Go.Proofs
/-! 24: tabular/tabularlaw12.grow -/
def c24_0 : ACode := .ops [
 ⟨some 4, none, .e (.alloc [(.int .i64 0), (.int .i64 0), (.str []), (.int .i64 0), (.int .i64 0), (.bool false), (.bool false), (.int .i64 0), (.int .i64 0), (.bool false), (.bool false), (.sl .full [])]), []⟩,
 ⟨some 5, none, .q (.mv (.v (.int .i64 0))), []⟩]
def c24_1 : ACode := .ops [
 ⟨some 14, none, .q (.mv (.t 1)), []⟩,
 ⟨some 15, none, .q (.mv (.t 0)), []⟩,
 ⟨some 16, none, .q (.len (.t 15)), []⟩,
 ⟨some 17, none, .q (.bin .geq (.t 14) (.t 16)), []⟩]
def c24_2 : ACode := .ops [
 ⟨some 18, none, .q (.build [(.int .i64 0), (.int .i64 0), (.str []), (.int .i64 0), (.int .i64 0), (.bool false), (.bool false), (.int .i64 0), (.int .i64 0), (.bool false), (.bool false), (.sl .full [])] [(0, 1, (.v (.int .i64 1)))]), []⟩,
 ⟨some 19, none, .q (.mv (.t 1)), []⟩,
 ⟨none, none, .e (.store 12 (.t 4) (.t 18)), []⟩,
 ⟨some 5, none, .q (.mv (.t 19)), []⟩]
def c24_3 : ACode := .seq c24_2 .ret
def c24_4 : ACode := .cond (.t 17) c24_3 .skip
def c24_5 : ACode := .seq c24_1 c24_4
def c24_6 : ACode := .ops [
 ⟨some 20, none, .q (.mv (.t 0)), []⟩,
 ⟨some 21, none, .q (.mv (.t 1)), []⟩,
 ⟨some 22, none, .q (.ia 11 (.t 20) (.t 21)), []⟩,
 ⟨some 23, none, .q (.ld (some 11) (.t 22)), []⟩,
 ⟨some 6, none, .e (.alloc [(.int .i64 0), (.int .i64 0), (.str []), (.int .i64 0), (.int .i64 0), (.bool false), (.bool false), (.int .i64 0), (.int .i64 0), (.bool false), (.bool false)]), []⟩,
 ⟨none, none, .e (.store 11 (.t 6) (.t 23)), []⟩]
def c24_7 : ACode := .ops [
 ⟨some 24, none, .q (.mv (.t 1)), []⟩,
 ⟨some 25, none, .q (.bin .add (.t 24) (.v (.int .i64 1))), []⟩,
 ⟨some 1, none, .q (.mv (.t 25)), []⟩]
def c24_8 : ACode := .ops [
 ⟨some 26, none, .q (.fa 0 (.t 6)), []⟩,
 ⟨some 27, none, .q (.ld none (.t 26)), []⟩,
 ⟨some 28, none, .q (.bin .rem (.t 27) (.v (.int .i64 23))), []⟩,
 ⟨some 29, none, .q (.bin .add (.t 28) (.v (.int .i64 23))), []⟩,
 ⟨some 30, none, .q (.bin .rem (.t 29) (.v (.int .i64 23))), []⟩,
 ⟨some 31, none, .q (.bin .add (.v (.int .i64 1)) (.t 30)), []⟩,
 ⟨some 32, none, .q (.build [(.int .i64 0), (.int .i64 0), (.str []), (.int .i64 0), (.int .i64 0), (.bool false), (.bool false), (.int .i64 0), (.int .i64 0), (.bool false), (.bool false), (.sl .full [])] [(0, 1, (.t 31))]), []⟩,
 ⟨some 7, none, .e (.alloc [(.int .i64 0), (.int .i64 0), (.str []), (.int .i64 0), (.int .i64 0), (.bool false), (.bool false), (.int .i64 0), (.int .i64 0), (.bool false), (.bool false), (.sl .full [])]), []⟩,
 ⟨none, none, .e (.store 12 (.t 7) (.t 32)), []⟩]
def c24_9 : ACode := .ops [
 ⟨some 8, none, .q (.mv (.v (.int .i64 0))), []⟩]
def c24_10 : ACode := .ops [
 ⟨some 33, none, .q (.fa 1 (.t 6)), []⟩,
 ⟨some 34, none, .q (.ld none (.t 33)), []⟩,
 ⟨some 35, none, .q (.bin .rem (.t 34) (.v (.int .i64 100000))), []⟩,
 ⟨some 36, none, .q (.bin .add (.t 35) (.v (.int .i64 100000))), []⟩,
 ⟨some 37, none, .q (.bin .rem (.t 36) (.v (.int .i64 100000))), []⟩,
 ⟨some 9, none, .q (.mv (.t 37)), []⟩]
def c24_11 : ACode := .ops [
 ⟨some 38, none, .q (.fa 0 (.t 7)), []⟩,
 ⟨some 39, none, .q (.ld none (.t 38)), []⟩]
def c24_12 : ACode := .ops [
 ⟨some 41, none, .q (.bin .eql (.t 39) (.v (.int .i64 1))), []⟩,
 ⟨some 40, none, .q (.mv (.t 41)), []⟩]
def c24_13 : ACode := .ops [
 ⟨some 42, none, .q (.mv (.t 9)), []⟩,
 ⟨some 43, none, .q (.fa 1 (.t 7)), []⟩,
 ⟨none, none, .e (.store 1 (.t 43) (.t 42)), []⟩]
def c24_14 : ACode := .ops [
 ⟨some 45, none, .q (.bin .eql (.t 39) (.v (.int .i64 3))), []⟩,
 ⟨some 44, none, .q (.mv (.t 45)), []⟩]
def c24_15 : ACode := .ops [
 ⟨some 46, none, .q (.mv (.t 9)), []⟩,
 ⟨some 47, none, .q (.bin .rem (.t 46) (.v (.int .i64 2))), []⟩,
 ⟨some 48, none, .q (.fa 1 (.t 7)), []⟩,
 ⟨none, none, .e (.store 1 (.t 48) (.t 47)), []⟩]
def c24_16 : ACode := .ops [
 ⟨some 50, none, .q (.bin .eql (.t 39) (.v (.int .i64 4))), []⟩,
 ⟨some 49, none, .q (.mv (.t 50)), []⟩]
def c24_17 : ACode := .ops [
 ⟨some 51, none, .q (.mv (.t 9)), []⟩,
 ⟨some 52, none, .q (.bin .rem (.t 51) (.v (.int .i64 7))), []⟩,
 ⟨some 53, none, .q (.bin .add (.v (.int .i64 1)) (.t 52)), []⟩,
 ⟨some 54, none, .q (.bin .mul (.t 53) (.v (.int .i64 10000))), []⟩,
 ⟨some 55, none, .q (.fa 1 (.t 7)), []⟩,
 ⟨none, none, .e (.store 1 (.t 55) (.t 54)), []⟩]
def c24_18 : ACode := .ops [
 ⟨some 57, none, .q (.bin .eql (.t 39) (.v (.int .i64 2))), []⟩,
 ⟨some 56, none, .q (.mv (.t 57)), []⟩]
def c24_19 : ACode := .ops [
 ⟨some 59, none, .q (.fa 2 (.t 6)), []⟩,
 ⟨some 60, none, .q (.ld none (.t 59)), []⟩,
 ⟨some 61, none, .e (.call 46 [(.t 60), (.v (.int .i64 20))]), []⟩,
 ⟨some 62, none, .e (.call 45 [(.t 61)]), []⟩,
 ⟨some 58, none, .q (.mv (.t 62)), []⟩,
 ⟨some 63, none, .q (.ext 0 (.t 58)), []⟩,
 ⟨some 64, none, .q (.ext 1 (.t 58)), []⟩,
 ⟨some 10, none, .q (.mv (.t 63)), []⟩,
 ⟨some 11, none, .q (.mv (.t 64)), []⟩]
def c24_20 : ACode := .ops [
 ⟨some 65, none, .q (.mv (.t 11)), []⟩]
def c24_21 : ACode := .ops [
 ⟨some 66, none, .q (.fa 2 (.t 6)), []⟩,
 ⟨some 67, none, .q (.ld none (.t 66)), []⟩,
 ⟨some 68, none, .e (.call 46 [(.t 67), (.v (.int .i64 20))]), []⟩,
 ⟨some 69, none, .q (.fa 2 (.t 7)), []⟩,
 ⟨none, none, .e (.store 1 (.t 69) (.t 68)), []⟩]
def c24_22 : ACode := .cond (.t 65) c24_21 .skip
def c24_23 : ACode := .seq c24_20 c24_22
def c24_24 : ACode := .seq c24_19 c24_23
def c24_25 : ACode := .ops [
 ⟨some 71, none, .q (.bin .eql (.t 39) (.v (.int .i64 5))), []⟩,
 ⟨some 70, none, .q (.mv (.t 71)), []⟩]
def c24_26 : ACode := .ops [
 ⟨some 72, none, .q (.fa 3 (.t 6)), []⟩,
 ⟨some 73, none, .q (.ld (some 4) (.t 72)), []⟩,
 ⟨some 74, none, .e (.call 47 [(.t 73)]), []⟩,
 ⟨some 75, none, .q (.fa 3 (.t 7)), []⟩,
 ⟨none, none, .e (.store 4 (.t 75) (.t 74)), []⟩]
def c24_27 : ACode := .ops [
 ⟨some 77, none, .q (.bin .eql (.t 39) (.v (.int .i64 6))), []⟩,
 ⟨some 76, none, .q (.mv (.t 77)), []⟩]
def c24_28 : ACode := .ops [
 ⟨some 78, none, .q (.fa 3 (.t 6)), []⟩,
 ⟨some 79, none, .q (.ld (some 4) (.t 78)), []⟩,
 ⟨some 80, none, .e (.call 47 [(.t 79)]), []⟩,
 ⟨some 81, none, .q (.fa 3 (.t 7)), []⟩,
 ⟨none, none, .e (.store 4 (.t 81) (.t 80)), []⟩]
def c24_29 : ACode := .ops [
 ⟨some 82, none, .q (.fa 7 (.t 6)), []⟩,
 ⟨some 83, none, .q (.ld (some 4) (.t 82)), []⟩,
 ⟨some 84, none, .e (.call 47 [(.t 83)]), []⟩,
 ⟨some 85, none, .q (.fa 7 (.t 7)), []⟩,
 ⟨none, none, .e (.store 4 (.t 85) (.t 84)), []⟩]
def c24_30 : ACode := .seq c24_28 c24_29
def c24_31 : ACode := .ops [
 ⟨some 87, none, .q (.bin .eql (.t 39) (.v (.int .i64 7))), []⟩,
 ⟨some 86, none, .q (.mv (.t 87)), []⟩]
def c24_32 : ACode := .ops [
 ⟨some 88, none, .q (.bin .eql (.t 39) (.v (.int .i64 8))), []⟩,
 ⟨some 86, none, .q (.mv (.t 88)), []⟩]
def c24_33 : ACode := .ops [
 ⟨some 89, none, .q (.bin .eql (.t 39) (.v (.int .i64 9))), []⟩,
 ⟨some 86, none, .q (.mv (.t 89)), []⟩]
def c24_34 : ACode := .cond (.t 86) .skip c24_33
def c24_35 : ACode := .seq c24_32 c24_34
def c24_36 : ACode := .cond (.t 86) .skip c24_35
def c24_37 : ACode := .seq c24_31 c24_36
def c24_38 : ACode := .ops [
 ⟨some 8, none, .q (.mv (.v (.int .i64 1))), []⟩]
def c24_39 : ACode := .ops [
 ⟨some 91, none, .q (.bin .eql (.t 39) (.v (.int .i64 23))), []⟩,
 ⟨some 90, none, .q (.mv (.t 91)), []⟩]
def c24_40 : ACode := .ops [
 ⟨some 92, none, .q (.build [(.int .i64 0), (.int .i64 0), (.str []), (.int .i64 0), (.int .i64 0), (.bool false), (.bool false), (.int .i64 0), (.int .i64 0), (.bool false), (.bool false), (.sl .full [])] [(0, 1, (.v (.int .i64 3)))]), []⟩,
 ⟨none, none, .e (.store 12 (.t 7) (.t 92)), []⟩]
def c24_41 : ACode := .ops [
 ⟨some 94, none, .q (.bin .eql (.t 39) (.v (.int .i64 22))), []⟩,
 ⟨some 93, none, .q (.mv (.t 94)), []⟩]
def c24_42 : ACode := .ops [
 ⟨some 95, none, .q (.bsl 1 [(.v (.str [83, 85, 77])), (.v (.str [73, 70])), (.v (.str [88, 46, 89])), (.v (.str [95, 65]))]), []⟩,
 ⟨some 96, none, .q (.mv (.t 9)), []⟩,
 ⟨some 97, none, .q (.bin .rem (.t 96) (.v (.int .i64 4))), []⟩,
 ⟨some 98, none, .q (.ia 1 (.t 95) (.t 97)), []⟩,
 ⟨some 99, none, .q (.ld none (.t 98)), []⟩,
 ⟨some 100, none, .q (.fa 2 (.t 7)), []⟩,
 ⟨none, none, .e (.store 1 (.t 100) (.t 99)), []⟩]
def c24_43 : ACode := .ops [
 ⟨some 101, none, .q (.mv (.t 9)), []⟩,
 ⟨some 102, none, .q (.bin .quo (.t 101) (.v (.int .i64 4))), []⟩,
 ⟨some 103, none, .q (.bin .rem (.t 102) (.v (.int .i64 4))), []⟩,
 ⟨some 8, none, .q (.mv (.t 103)), []⟩]
def c24_44 : ACode := .seq c24_42 c24_43
def c24_45 : ACode := .ops [
 ⟨some 8, none, .q (.mv (.v (.int .i64 2))), []⟩]
def c24_46 : ACode := .cond (.t 93) c24_44 c24_45
def c24_47 : ACode := .seq c24_41 c24_46
def c24_48 : ACode := .cond (.t 90) c24_40 c24_47
def c24_49 : ACode := .seq c24_39 c24_48
def c24_50 : ACode := .cond (.t 86) c24_38 c24_49
def c24_51 : ACode := .seq c24_37 c24_50
def c24_52 : ACode := .cond (.t 76) c24_30 c24_51
def c24_53 : ACode := .seq c24_27 c24_52
def c24_54 : ACode := .cond (.t 70) c24_26 c24_53
def c24_55 : ACode := .seq c24_25 c24_54
def c24_56 : ACode := .cond (.t 56) c24_24 c24_55
def c24_57 : ACode := .seq c24_18 c24_56
def c24_58 : ACode := .cond (.t 49) c24_17 c24_57
def c24_59 : ACode := .seq c24_16 c24_58
def c24_60 : ACode := .cond (.t 44) c24_15 c24_59
def c24_61 : ACode := .seq c24_14 c24_60
def c24_62 : ACode := .cond (.t 40) c24_13 c24_61
def c24_63 : ACode := .seq c24_12 c24_62
def c24_64 : ACode := .block 0 c24_63
def c24_65 : ACode := .seq c24_11 c24_64
def c24_66 : ACode := .ops [
 ⟨some 104, none, .q (.mv (.t 8)), []⟩,
 ⟨some 105, none, .q (.bin .gtr (.t 104) (.v (.int .i64 0))), []⟩]
def c24_67 : ACode := .cond (.t 105) .skip (.exit 1)
def c24_68 : ACode := .seq c24_66 c24_67
def c24_69 : ACode := .ops [
 ⟨some 109, none, .q (.mv (.t 0)), []⟩,
 ⟨some 110, none, .q (.mv (.t 1)), []⟩,
 ⟨some 111, none, .e (.call 24 [(.t 109), (.t 110)]), []⟩,
 ⟨some 108, none, .q (.mv (.t 111)), []⟩,
 ⟨some 112, none, .q (.ext 0 (.t 108)), []⟩,
 ⟨some 113, none, .q (.ext 1 (.t 108)), []⟩,
 ⟨some 12, none, .e (.alloc [(.int .i64 0), (.int .i64 0), (.str []), (.int .i64 0), (.int .i64 0), (.bool false), (.bool false), (.int .i64 0), (.int .i64 0), (.bool false), (.bool false), (.sl .full [])]), []⟩,
 ⟨none, none, .e (.store 12 (.t 12) (.t 112)), []⟩,
 ⟨some 13, none, .q (.mv (.t 113)), []⟩]
def c24_70 : ACode := .ops [
 ⟨some 114, none, .q (.mv (.t 13)), []⟩,
 ⟨some 1, none, .q (.mv (.t 114)), []⟩]
def c24_71 : ACode := .ops [
 ⟨some 115, none, .q (.fa 11 (.t 7)), []⟩,
 ⟨some 116, none, .q (.ld none (.t 115)), []⟩,
 ⟨some 117, none, .q (.ld (some 12) (.t 12)), []⟩,
 ⟨some 118, none, .q (.bsl 12 [(.t 117)]), []⟩,
 ⟨some 119, none, .e (.app 28 12 104 [(.int .i64 0), (.int .i64 0), (.str []), (.int .i64 0), (.int .i64 0), (.bool false), (.bool false), (.int .i64 0), (.int .i64 0), (.bool false), (.bool false), (.sl .full [])] (.t 116) (.t 118)), []⟩,
 ⟨some 120, none, .q (.fa 11 (.t 7)), []⟩,
 ⟨none, none, .e (.store 1 (.t 120) (.t 119)), []⟩]
def c24_72 : ACode := .seq c24_70 c24_71
def c24_73 : ACode := .seq c24_69 c24_72
def c24_74 : ACode := .block 2 c24_73
def c24_75 : ACode := .ops [
 ⟨some 106, none, .q (.mv (.t 8)), []⟩,
 ⟨some 107, none, .q (.bin .sub (.t 106) (.v (.int .i64 1))), []⟩,
 ⟨some 8, none, .q (.mv (.t 107)), []⟩]
def c24_76 : ACode := .seq c24_74 c24_75
def c24_77 : ACode := .seq c24_68 c24_76
def c24_78 : ACode := .loop c24_77
def c24_79 : ACode := .block 1 c24_78
def c24_80 : ACode := .ops [
 ⟨some 121, none, .q (.fa 0 (.t 7)), []⟩,
 ⟨some 122, none, .q (.ld none (.t 121)), []⟩,
 ⟨some 123, none, .q (.bin .eql (.t 122) (.v (.int .i64 22))), []⟩,
 ⟨some 124, none, .q (.mv (.t 123)), []⟩,
 ⟨some 125, some (124, true), .q (.fa 11 (.t 7)), []⟩,
 ⟨some 126, some (124, true), .q (.ld none (.t 125)), []⟩,
 ⟨some 127, some (124, true), .q (.len (.t 126)), []⟩,
 ⟨some 128, some (124, true), .q (.bin .gtr (.t 127) (.v (.int .i64 1))), []⟩,
 ⟨some 129, none, .q (.pick (.t 124) (.t 128) (.v (.bool false))), []⟩,
 ⟨some 130, none, .q (.mv (.t 129)), []⟩,
 ⟨some 131, some (130, true), .q (.mv (.t 9)), []⟩,
 ⟨some 132, some (130, true), .q (.bin .rem (.t 131) (.v (.int .i64 3))), []⟩,
 ⟨some 133, some (130, true), .q (.bin .eql (.t 132) (.v (.int .i64 0))), []⟩,
 ⟨some 134, none, .q (.pick (.t 130) (.t 133) (.v (.bool false))), []⟩]
def c24_81 : ACode := .ops [
 ⟨some 135, none, .q (.fa 11 (.t 7)), []⟩,
 ⟨some 136, none, .q (.ld none (.t 135)), []⟩,
 ⟨some 137, none, .q (.build [(.int .i64 0), (.int .i64 0), (.str []), (.int .i64 0), (.int .i64 0), (.bool false), (.bool false), (.int .i64 0), (.int .i64 0), (.bool false), (.bool false), (.sl .full [])] [(0, 1, (.v (.int .i64 23)))]), []⟩,
 ⟨some 138, none, .q (.ia 12 (.t 136) (.v (.int .i64 0))), []⟩,
 ⟨none, none, .e (.store 12 (.t 138) (.t 137)), []⟩]
def c24_82 : ACode := .cond (.t 134) c24_81 .skip
def c24_83 : ACode := .seq c24_80 c24_82
def c24_84 : ACode := .ops [
 ⟨some 139, none, .q (.ld (some 12) (.t 7)), []⟩,
 ⟨some 140, none, .q (.mv (.t 1)), []⟩,
 ⟨none, none, .e (.store 12 (.t 4) (.t 139)), []⟩,
 ⟨some 5, none, .q (.mv (.t 140)), []⟩]
def c24_85 : ACode := .seq c24_84 .ret
def c24_86 : ACode := .seq c24_83 c24_85
def c24_87 : ACode := .seq c24_79 c24_86
def c24_88 : ACode := .seq c24_65 c24_87
def c24_89 : ACode := .seq c24_10 c24_88
def c24_90 : ACode := .seq c24_9 c24_89
def c24_91 : ACode := .seq c24_8 c24_90
def c24_92 : ACode := .seq c24_7 c24_91
def c24_93 : ACode := .seq c24_6 c24_92
def c24_94 : ACode := .seq c24_5 c24_93
def c24_95 : ACode := .seq c24_0 c24_94
@[go_sem] def c24_0_wp := wp_of c24_0.eq_1
@[go_sem] def c24_1_wp := wp_of c24_1.eq_1
@[go_sem] def c24_2_wp := wp_of c24_2.eq_1
@[go_sem] def c24_3_wp := wp_of c24_3.eq_1
@[go_sem] def c24_4_wp := wp_of c24_4.eq_1
@[go_sem] def c24_5_wp := wp_of c24_5.eq_1
@[go_sem] def c24_6_wp := wp_of c24_6.eq_1
@[go_sem] def c24_7_wp := wp_of c24_7.eq_1
@[go_sem] def c24_8_wp := wp_of c24_8.eq_1
@[go_sem] def c24_9_wp := wp_of c24_9.eq_1
@[go_sem] def c24_10_wp := wp_of c24_10.eq_1
@[go_sem] def c24_11_wp := wp_of c24_11.eq_1
@[go_sem] def c24_12_wp := wp_of c24_12.eq_1
@[go_sem] def c24_13_wp := wp_of c24_13.eq_1
@[go_sem] def c24_14_wp := wp_of c24_14.eq_1
@[go_sem] def c24_15_wp := wp_of c24_15.eq_1
@[go_sem] def c24_16_wp := wp_of c24_16.eq_1
@[go_sem] def c24_17_wp := wp_of c24_17.eq_1
@[go_sem] def c24_18_wp := wp_of c24_18.eq_1
@[go_sem] def c24_19_wp := wp_of c24_19.eq_1
@[go_sem] def c24_20_wp := wp_of c24_20.eq_1
@[go_sem] def c24_21_wp := wp_of c24_21.eq_1
@[go_sem] def c24_22_wp := wp_of c24_22.eq_1
@[go_sem] def c24_23_wp := wp_of c24_23.eq_1
@[go_sem] def c24_24_wp := wp_of c24_24.eq_1
@[go_sem] def c24_25_wp := wp_of c24_25.eq_1
@[go_sem] def c24_26_wp := wp_of c24_26.eq_1
@[go_sem] def c24_27_wp := wp_of c24_27.eq_1
@[go_sem] def c24_28_wp := wp_of c24_28.eq_1
@[go_sem] def c24_29_wp := wp_of c24_29.eq_1
@[go_sem] def c24_30_wp := wp_of c24_30.eq_1
@[go_sem] def c24_31_wp := wp_of c24_31.eq_1
@[go_sem] def c24_32_wp := wp_of c24_32.eq_1
@[go_sem] def c24_33_wp := wp_of c24_33.eq_1
@[go_sem] def c24_34_wp := wp_of c24_34.eq_1
@[go_sem] def c24_35_wp := wp_of c24_35.eq_1
@[go_sem] def c24_36_wp := wp_of c24_36.eq_1
@[go_sem] def c24_37_wp := wp_of c24_37.eq_1
@[go_sem] def c24_38_wp := wp_of c24_38.eq_1
@[go_sem] def c24_39_wp := wp_of c24_39.eq_1
@[go_sem] def c24_40_wp := wp_of c24_40.eq_1
@[go_sem] def c24_41_wp := wp_of c24_41.eq_1
@[go_sem] def c24_42_wp := wp_of c24_42.eq_1
@[go_sem] def c24_43_wp := wp_of c24_43.eq_1
@[go_sem] def c24_44_wp := wp_of c24_44.eq_1
@[go_sem] def c24_45_wp := wp_of c24_45.eq_1
@[go_sem] def c24_46_wp := wp_of c24_46.eq_1
@[go_sem] def c24_47_wp := wp_of c24_47.eq_1
@[go_sem] def c24_48_wp := wp_of c24_48.eq_1
@[go_sem] def c24_49_wp := wp_of c24_49.eq_1
@[go_sem] def c24_50_wp := wp_of c24_50.eq_1
@[go_sem] def c24_51_wp := wp_of c24_51.eq_1
@[go_sem] def c24_52_wp := wp_of c24_52.eq_1
@[go_sem] def c24_53_wp := wp_of c24_53.eq_1
@[go_sem] def c24_54_wp := wp_of c24_54.eq_1
@[go_sem] def c24_55_wp := wp_of c24_55.eq_1
@[go_sem] def c24_56_wp := wp_of c24_56.eq_1
@[go_sem] def c24_57_wp := wp_of c24_57.eq_1
@[go_sem] def c24_58_wp := wp_of c24_58.eq_1
@[go_sem] def c24_59_wp := wp_of c24_59.eq_1
@[go_sem] def c24_60_wp := wp_of c24_60.eq_1
@[go_sem] def c24_61_wp := wp_of c24_61.eq_1
@[go_sem] def c24_62_wp := wp_of c24_62.eq_1
@[go_sem] def c24_63_wp := wp_of c24_63.eq_1
@[go_sem] def c24_64_wp := wp_of c24_64.eq_1
@[go_sem] def c24_65_wp := wp_of c24_65.eq_1
@[go_sem] def c24_66_wp := wp_of c24_66.eq_1
@[go_sem] def c24_67_wp := wp_of c24_67.eq_1
@[go_sem] def c24_68_wp := wp_of c24_68.eq_1
@[go_sem] def c24_69_wp := wp_of c24_69.eq_1
@[go_sem] def c24_70_wp := wp_of c24_70.eq_1
@[go_sem] def c24_71_wp := wp_of c24_71.eq_1
@[go_sem] def c24_72_wp := wp_of c24_72.eq_1
@[go_sem] def c24_73_wp := wp_of c24_73.eq_1
@[go_sem] def c24_74_wp := wp_of c24_74.eq_1
@[go_sem] def c24_75_wp := wp_of c24_75.eq_1
@[go_sem] def c24_76_wp := wp_of c24_76.eq_1
@[go_sem] def c24_77_wp := wp_of c24_77.eq_1
@[go_sem] def c24_78_wp := wp_of c24_78.eq_1
@[go_sem] def c24_79_wp := wp_of c24_79.eq_1
@[go_sem] def c24_80_wp := wp_of c24_80.eq_1
@[go_sem] def c24_81_wp := wp_of c24_81.eq_1
@[go_sem] def c24_82_wp := wp_of c24_82.eq_1
@[go_sem] def c24_83_wp := wp_of c24_83.eq_1
@[go_sem] def c24_84_wp := wp_of c24_84.eq_1
@[go_sem] def c24_85_wp := wp_of c24_85.eq_1
@[go_sem] def c24_86_wp := wp_of c24_86.eq_1
@[go_sem] def c24_87_wp := wp_of c24_87.eq_1
@[go_sem] def c24_88_wp := wp_of c24_88.eq_1
@[go_sem] def c24_89_wp := wp_of c24_89.eq_1
@[go_sem] def c24_90_wp := wp_of c24_90.eq_1
@[go_sem] def c24_91_wp := wp_of c24_91.eq_1
@[go_sem] def c24_92_wp := wp_of c24_92.eq_1
@[go_sem] def c24_93_wp := wp_of c24_93.eq_1
@[go_sem] def c24_94_wp := wp_of c24_94.eq_1
@[go_sem] def c24_95_wp := wp_of c24_95.eq_1
def c24 : AFn := ⟨141, [.c 4 (some 12), .t 5], c24_95⟩
theorem c24_ok : compF Tryz.prog Tryz.f24 = some c24 := by kernel_rfl
theorem a24 {args : List AV} {σ : ASt} {R : AV → ASt → Prop} (hl : args.length ≤ 141) (h : c24_95.wp Tryz.prog (RetQ [.c 4 (some 12), .t 5] R) (init args) σ) : ACalls Tryz.prog 24 args σ R := acalls_of Tryz.func24 c24_ok hl h
/-! 45: tabular/tabularref11.Signs -/
def c45_0 : ACode := .ops [
 ⟨some 2, none, .q (.mv (.v (.int .i64 0))), []⟩,
 ⟨some 3, none, .q (.mv (.v (.bool false))), []⟩]
def c45_1 : ACode := .ops [
 ⟨some 4, none, .q (.mv (.v (.int .i64 0))), []⟩]
def c45_2 : ACode := .ops [
 ⟨some 5, none, .q (.mv (.v (.int .i64 0))), []⟩]
def c45_3 : ACode := .ops [
 ⟨some 7, none, .q (.mv (.t 5)), []⟩,
 ⟨some 8, none, .q (.mv (.t 0)), []⟩,
 ⟨some 9, none, .q (.lenS (.t 8)), []⟩,
 ⟨some 10, none, .q (.bin .lss (.t 7) (.t 9)), []⟩]
def c45_4 : ACode := .cond (.t 10) .skip (.exit 0)
def c45_5 : ACode := .seq c45_3 c45_4
def c45_6 : ACode := .ops [
 ⟨some 11, none, .q (.mv (.t 0)), []⟩,
 ⟨some 12, none, .q (.mv (.t 5)), []⟩,
 ⟨some 13, none, .e (.call 63 [(.t 11), (.t 12)]), []⟩,
 ⟨some 6, none, .q (.mv (.t 13)), []⟩]
def c45_7 : ACode := .ops [
 ⟨some 14, none, .q (.mv (.t 6)), []⟩,
 ⟨some 15, none, .q (.bin .eql (.t 14) (.v (.int .i64 0))), []⟩]
def c45_8 : ACode := .ops [
 ⟨some 2, none, .q (.mv (.v (.int .i64 0))), []⟩,
 ⟨some 3, none, .q (.mv (.v (.bool false))), []⟩]
def c45_9 : ACode := .seq c45_8 .ret
def c45_10 : ACode := .cond (.t 15) c45_9 .skip
def c45_11 : ACode := .seq c45_7 c45_10
def c45_12 : ACode := .ops [
 ⟨some 16, none, .q (.mv (.t 5)), []⟩,
 ⟨some 17, none, .q (.mv (.t 6)), []⟩,
 ⟨some 18, none, .q (.bin .add (.t 16) (.t 17)), []⟩,
 ⟨some 5, none, .q (.mv (.t 18)), []⟩]
def c45_13 : ACode := .ops [
 ⟨some 19, none, .q (.mv (.t 4)), []⟩,
 ⟨some 20, none, .q (.bin .add (.t 19) (.v (.int .i64 1))), []⟩,
 ⟨some 4, none, .q (.mv (.t 20)), []⟩]
def c45_14 : ACode := .seq c45_12 c45_13
def c45_15 : ACode := .seq c45_11 c45_14
def c45_16 : ACode := .seq c45_6 c45_15
def c45_17 : ACode := .block 1 c45_16
def c45_18 : ACode := .seq c45_5 c45_17
def c45_19 : ACode := .loop c45_18
def c45_20 : ACode := .block 0 c45_19
def c45_21 : ACode := .seq c45_2 c45_20
def c45_22 : ACode := .ops [
 ⟨some 21, none, .q (.mv (.t 4)), []⟩,
 ⟨some 2, none, .q (.mv (.t 21)), []⟩,
 ⟨some 3, none, .q (.mv (.v (.bool true))), []⟩]
def c45_23 : ACode := .seq c45_22 .ret
def c45_24 : ACode := .seq c45_21 c45_23
def c45_25 : ACode := .seq c45_1 c45_24
def c45_26 : ACode := .seq c45_0 c45_25
@[go_sem] def c45_0_wp := wp_of c45_0.eq_1
@[go_sem] def c45_1_wp := wp_of c45_1.eq_1
@[go_sem] def c45_2_wp := wp_of c45_2.eq_1
@[go_sem] def c45_3_wp := wp_of c45_3.eq_1
@[go_sem] def c45_4_wp := wp_of c45_4.eq_1
@[go_sem] def c45_5_wp := wp_of c45_5.eq_1
@[go_sem] def c45_6_wp := wp_of c45_6.eq_1
@[go_sem] def c45_7_wp := wp_of c45_7.eq_1
@[go_sem] def c45_8_wp := wp_of c45_8.eq_1
@[go_sem] def c45_9_wp := wp_of c45_9.eq_1
@[go_sem] def c45_10_wp := wp_of c45_10.eq_1
@[go_sem] def c45_11_wp := wp_of c45_11.eq_1
@[go_sem] def c45_12_wp := wp_of c45_12.eq_1
@[go_sem] def c45_13_wp := wp_of c45_13.eq_1
@[go_sem] def c45_14_wp := wp_of c45_14.eq_1
@[go_sem] def c45_15_wp := wp_of c45_15.eq_1
@[go_sem] def c45_16_wp := wp_of c45_16.eq_1
@[go_sem] def c45_17_wp := wp_of c45_17.eq_1
@[go_sem] def c45_18_wp := wp_of c45_18.eq_1
@[go_sem] def c45_19_wp := wp_of c45_19.eq_1
@[go_sem] def c45_20_wp := wp_of c45_20.eq_1
@[go_sem] def c45_21_wp := wp_of c45_21.eq_1
@[go_sem] def c45_22_wp := wp_of c45_22.eq_1
@[go_sem] def c45_23_wp := wp_of c45_23.eq_1
@[go_sem] def c45_24_wp := wp_of c45_24.eq_1
@[go_sem] def c45_25_wp := wp_of c45_25.eq_1
@[go_sem] def c45_26_wp := wp_of c45_26.eq_1
def c45 : AFn := ⟨22, [.t 2, .t 3], c45_26⟩
theorem c45_ok : compF Tryz.prog Tryz.f45 = some c45 := by kernel_rfl
theorem a45 {args : List AV} {σ : ASt} {R : AV → ASt → Prop} (hl : args.length ≤ 22) (h : c45_26.wp Tryz.prog (RetQ [.t 2, .t 3] R) (init args) σ) : ACalls Tryz.prog 45 args σ R := acalls_of Tryz.func45 c45_ok hl h
/-! 47: tabular/tabularlaw12.place -/
def c47_0 : ACode := .ops [
 ⟨some 1, none, .e (.box (.t 0)), []⟩,
 ⟨some 2, none, .e (.alloc [(.int .i64 0), (.int .i64 0), (.bool false), (.bool false)]), []⟩]
def c47_1 : ACode := .ops [
 ⟨some 3, none, .q (.fa 0 (.t 1)), []⟩,
 ⟨some 4, none, .q (.ld none (.t 3)), []⟩,
 ⟨some 5, none, .q (.bin .rem (.t 4) (.v (.int .i64 3000))), []⟩,
 ⟨some 6, none, .q (.bin .add (.t 5) (.v (.int .i64 3000))), []⟩,
 ⟨some 7, none, .q (.bin .rem (.t 6) (.v (.int .i64 3000))), []⟩,
 ⟨some 8, none, .q (.fa 0 (.t 1)), []⟩,
 ⟨none, none, .e (.store 1 (.t 8) (.t 7)), []⟩]
def c47_2 : ACode := .ops [
 ⟨some 9, none, .q (.fa 1 (.t 1)), []⟩,
 ⟨some 10, none, .q (.ld none (.t 9)), []⟩,
 ⟨some 11, none, .q (.bin .rem (.t 10) (.v (.int .i64 700))), []⟩,
 ⟨some 12, none, .q (.bin .add (.t 11) (.v (.int .i64 700))), []⟩,
 ⟨some 13, none, .q (.bin .rem (.t 12) (.v (.int .i64 700))), []⟩,
 ⟨some 14, none, .q (.fa 1 (.t 1)), []⟩,
 ⟨none, none, .e (.store 1 (.t 14) (.t 13)), []⟩]
def c47_3 : ACode := .ops [
 ⟨some 15, none, .q (.ld (some 4) (.t 1)), []⟩,
 ⟨none, none, .e (.store 4 (.t 2) (.t 15)), []⟩]
def c47_4 : ACode := .seq c47_3 .ret
def c47_5 : ACode := .seq c47_2 c47_4
def c47_6 : ACode := .seq c47_1 c47_5
def c47_7 : ACode := .seq c47_0 c47_6
@[go_sem] def c47_0_wp := wp_of c47_0.eq_1
@[go_sem] def c47_1_wp := wp_of c47_1.eq_1
@[go_sem] def c47_2_wp := wp_of c47_2.eq_1
@[go_sem] def c47_3_wp := wp_of c47_3.eq_1
@[go_sem] def c47_4_wp := wp_of c47_4.eq_1
@[go_sem] def c47_5_wp := wp_of c47_5.eq_1
@[go_sem] def c47_6_wp := wp_of c47_6.eq_1
@[go_sem] def c47_7_wp := wp_of c47_7.eq_1
def c47 : AFn := ⟨16, [.c 2 (some 4)], c47_7⟩
theorem c47_ok : compF Tryz.prog Tryz.f47 = some c47 := by kernel_rfl
theorem a47 {args : List AV} {σ : ASt} {R : AV → ASt → Prop} (hl : args.length ≤ 16) (h : c47_7.wp Tryz.prog (RetQ [.c 2 (some 4)] R) (init args) σ) : ACalls Tryz.prog 47 args σ R := acalls_of Tryz.func47 c47_ok hl h
/-! 63: tabular/tabularref11.Sign -/
def c63_0 : ACode := .ops [
 ⟨some 4, none, .q (.mv (.v (.int .i64 0))), []⟩]
def c63_1 : ACode := .ops [
 ⟨some 8, none, .q (.mv (.t 1)), []⟩,
 ⟨some 9, none, .q (.mv (.t 0)), []⟩,
 ⟨some 10, none, .q (.lenS (.t 9)), []⟩,
 ⟨some 11, none, .q (.bin .geq (.t 8) (.t 10)), []⟩]
def c63_2 : ACode := .ops [
 ⟨some 4, none, .q (.mv (.v (.int .i64 0))), []⟩]
def c63_3 : ACode := .seq c63_2 .ret
def c63_4 : ACode := .cond (.t 11) c63_3 .skip
def c63_5 : ACode := .seq c63_1 c63_4
def c63_6 : ACode := .ops [
 ⟨some 12, none, .q (.mv (.t 0)), []⟩,
 ⟨some 13, none, .q (.mv (.t 1)), []⟩,
 ⟨some 14, none, .q (.idx (.t 12) (.t 13)), []⟩,
 ⟨some 15, none, .q (.conv .i64 (.t 14)), []⟩,
 ⟨some 5, none, .q (.mv (.t 15)), []⟩]
def c63_7 : ACode := .ops [
 ⟨some 16, none, .q (.mv (.t 5)), []⟩,
 ⟨some 17, none, .q (.bin .lss (.t 16) (.v (.int .i64 128))), []⟩]
def c63_8 : ACode := .ops [
 ⟨some 4, none, .q (.mv (.v (.int .i64 1))), []⟩]
def c63_9 : ACode := .seq c63_8 .ret
def c63_10 : ACode := .cond (.t 17) c63_9 .skip
def c63_11 : ACode := .seq c63_7 c63_10
def c63_12 : ACode := .ops [
 ⟨some 18, none, .q (.mv (.t 5)), []⟩,
 ⟨some 19, none, .q (.bin .geq (.t 18) (.v (.int .i64 194))), []⟩,
 ⟨some 20, none, .q (.mv (.t 19)), []⟩,
 ⟨some 21, some (20, true), .q (.mv (.t 5)), []⟩,
 ⟨some 22, some (20, true), .q (.bin .leq (.t 21) (.v (.int .i64 223))), []⟩,
 ⟨some 23, none, .q (.pick (.t 20) (.t 22) (.v (.bool false))), []⟩,
 ⟨some 24, none, .q (.mv (.t 23)), []⟩,
 ⟨some 25, some (24, true), .q (.mv (.t 0)), []⟩,
 ⟨some 26, some (24, true), .q (.mv (.t 1)), []⟩,
 ⟨some 27, some (24, true), .q (.bin .add (.t 26) (.v (.int .i64 1))), []⟩,
 ⟨some 28, some (24, true), .e (.call 75 [(.t 25), (.t 27), (.v (.int .i64 128)), (.v (.int .i64 191))]), []⟩,
 ⟨some 29, none, .q (.pick (.t 24) (.t 28) (.v (.bool false))), []⟩]
def c63_13 : ACode := .ops [
 ⟨some 4, none, .q (.mv (.v (.int .i64 2))), []⟩]
def c63_14 : ACode := .seq c63_13 .ret
def c63_15 : ACode := .cond (.t 29) c63_14 .skip
def c63_16 : ACode := .seq c63_12 c63_15
def c63_17 : ACode := .ops [
 ⟨some 6, none, .q (.mv (.v (.int .i64 128))), []⟩,
 ⟨some 7, none, .q (.mv (.v (.int .i64 191))), []⟩]
def c63_18 : ACode := .ops [
 ⟨some 30, none, .q (.mv (.t 5)), []⟩,
 ⟨some 31, none, .q (.bin .eql (.t 30) (.v (.int .i64 224))), []⟩,
 ⟨some 32, none, .q (.mv (.t 31)), []⟩,
 ⟨some 33, some (32, false), .q (.mv (.t 5)), []⟩,
 ⟨some 34, some (32, false), .q (.bin .eql (.t 33) (.v (.int .i64 240))), []⟩,
 ⟨some 35, none, .q (.pick (.t 32) (.v (.bool true)) (.t 34)), []⟩]
def c63_19 : ACode := .ops [
 ⟨some 6, none, .q (.mv (.v (.int .i64 160))), []⟩]
def c63_20 : ACode := .cond (.t 35) c63_19 .skip
def c63_21 : ACode := .seq c63_18 c63_20
def c63_22 : ACode := .ops [
 ⟨some 36, none, .q (.mv (.t 5)), []⟩,
 ⟨some 37, none, .q (.bin .eql (.t 36) (.v (.int .i64 240))), []⟩]
def c63_23 : ACode := .ops [
 ⟨some 6, none, .q (.mv (.v (.int .i64 144))), []⟩]
def c63_24 : ACode := .cond (.t 37) c63_23 .skip
def c63_25 : ACode := .seq c63_22 c63_24
def c63_26 : ACode := .ops [
 ⟨some 38, none, .q (.mv (.t 5)), []⟩,
 ⟨some 39, none, .q (.bin .eql (.t 38) (.v (.int .i64 237))), []⟩]
def c63_27 : ACode := .ops [
 ⟨some 7, none, .q (.mv (.v (.int .i64 159))), []⟩]
def c63_28 : ACode := .cond (.t 39) c63_27 .skip
def c63_29 : ACode := .seq c63_26 c63_28
def c63_30 : ACode := .ops [
 ⟨some 40, none, .q (.mv (.t 5)), []⟩,
 ⟨some 41, none, .q (.bin .eql (.t 40) (.v (.int .i64 244))), []⟩]
def c63_31 : ACode := .ops [
 ⟨some 7, none, .q (.mv (.v (.int .i64 143))), []⟩]
def c63_32 : ACode := .cond (.t 41) c63_31 .skip
def c63_33 : ACode := .seq c63_30 c63_32
def c63_34 : ACode := .ops [
 ⟨some 42, none, .q (.mv (.t 5)), []⟩,
 ⟨some 43, none, .q (.bin .geq (.t 42) (.v (.int .i64 224))), []⟩,
 ⟨some 44, none, .q (.mv (.t 43)), []⟩,
 ⟨some 45, some (44, true), .q (.mv (.t 5)), []⟩,
 ⟨some 46, some (44, true), .q (.bin .leq (.t 45) (.v (.int .i64 239))), []⟩,
 ⟨some 47, none, .q (.pick (.t 44) (.t 46) (.v (.bool false))), []⟩,
 ⟨some 48, none, .q (.mv (.t 47)), []⟩,
 ⟨some 49, some (48, true), .q (.mv (.t 0)), []⟩,
 ⟨some 50, some (48, true), .q (.mv (.t 1)), []⟩,
 ⟨some 51, some (48, true), .q (.bin .add (.t 50) (.v (.int .i64 1))), []⟩,
 ⟨some 52, some (48, true), .q (.mv (.t 6)), []⟩,
 ⟨some 53, some (48, true), .q (.mv (.t 7)), []⟩,
 ⟨some 54, some (48, true), .e (.call 75 [(.t 49), (.t 51), (.t 52), (.t 53)]), []⟩,
 ⟨some 55, none, .q (.pick (.t 48) (.t 54) (.v (.bool false))), []⟩,
 ⟨some 56, none, .q (.mv (.t 55)), []⟩,
 ⟨some 57, some (56, true), .q (.mv (.t 0)), []⟩,
 ⟨some 58, some (56, true), .q (.mv (.t 1)), []⟩,
 ⟨some 59, some (56, true), .q (.bin .add (.t 58) (.v (.int .i64 2))), []⟩,
 ⟨some 60, some (56, true), .e (.call 75 [(.t 57), (.t 59), (.v (.int .i64 128)), (.v (.int .i64 191))]), []⟩,
 ⟨some 61, none, .q (.pick (.t 56) (.t 60) (.v (.bool false))), []⟩]
def c63_35 : ACode := .ops [
 ⟨some 4, none, .q (.mv (.v (.int .i64 3))), []⟩]
def c63_36 : ACode := .seq c63_35 .ret
def c63_37 : ACode := .cond (.t 61) c63_36 .skip
def c63_38 : ACode := .seq c63_34 c63_37
def c63_39 : ACode := .ops [
 ⟨some 62, none, .q (.mv (.t 5)), []⟩,
 ⟨some 63, none, .q (.bin .geq (.t 62) (.v (.int .i64 240))), []⟩,
 ⟨some 64, none, .q (.mv (.t 63)), []⟩,
 ⟨some 65, some (64, true), .q (.mv (.t 5)), []⟩,
 ⟨some 66, some (64, true), .q (.bin .leq (.t 65) (.v (.int .i64 244))), []⟩,
 ⟨some 67, none, .q (.pick (.t 64) (.t 66) (.v (.bool false))), []⟩,
 ⟨some 68, none, .q (.mv (.t 67)), []⟩,
 ⟨some 69, some (68, true), .q (.mv (.t 0)), []⟩,
 ⟨some 70, some (68, true), .q (.mv (.t 1)), []⟩,
 ⟨some 71, some (68, true), .q (.bin .add (.t 70) (.v (.int .i64 1))), []⟩,
 ⟨some 72, some (68, true), .q (.mv (.t 6)), []⟩,
 ⟨some 73, some (68, true), .q (.mv (.t 7)), []⟩,
 ⟨some 74, some (68, true), .e (.call 75 [(.t 69), (.t 71), (.t 72), (.t 73)]), []⟩,
 ⟨some 75, none, .q (.pick (.t 68) (.t 74) (.v (.bool false))), []⟩,
 ⟨some 76, none, .q (.mv (.t 75)), []⟩,
 ⟨some 77, some (76, true), .q (.mv (.t 0)), []⟩,
 ⟨some 78, some (76, true), .q (.mv (.t 1)), []⟩,
 ⟨some 79, some (76, true), .q (.bin .add (.t 78) (.v (.int .i64 2))), []⟩,
 ⟨some 80, some (76, true), .e (.call 75 [(.t 77), (.t 79), (.v (.int .i64 128)), (.v (.int .i64 191))]), []⟩,
 ⟨some 81, none, .q (.pick (.t 76) (.t 80) (.v (.bool false))), []⟩,
 ⟨some 82, none, .q (.mv (.t 81)), []⟩,
 ⟨some 83, some (82, true), .q (.mv (.t 0)), []⟩,
 ⟨some 84, some (82, true), .q (.mv (.t 1)), []⟩,
 ⟨some 85, some (82, true), .q (.bin .add (.t 84) (.v (.int .i64 3))), []⟩,
 ⟨some 86, some (82, true), .e (.call 75 [(.t 83), (.t 85), (.v (.int .i64 128)), (.v (.int .i64 191))]), []⟩,
 ⟨some 87, none, .q (.pick (.t 82) (.t 86) (.v (.bool false))), []⟩]
def c63_40 : ACode := .ops [
 ⟨some 4, none, .q (.mv (.v (.int .i64 4))), []⟩]
def c63_41 : ACode := .seq c63_40 .ret
def c63_42 : ACode := .cond (.t 87) c63_41 .skip
def c63_43 : ACode := .seq c63_39 c63_42
def c63_44 : ACode := .ops [
 ⟨some 4, none, .q (.mv (.v (.int .i64 0))), []⟩]
def c63_45 : ACode := .seq c63_44 .ret
def c63_46 : ACode := .seq c63_43 c63_45
def c63_47 : ACode := .seq c63_38 c63_46
def c63_48 : ACode := .seq c63_33 c63_47
def c63_49 : ACode := .seq c63_29 c63_48
def c63_50 : ACode := .seq c63_25 c63_49
def c63_51 : ACode := .seq c63_21 c63_50
def c63_52 : ACode := .seq c63_17 c63_51
def c63_53 : ACode := .seq c63_16 c63_52
def c63_54 : ACode := .seq c63_11 c63_53
def c63_55 : ACode := .seq c63_6 c63_54
def c63_56 : ACode := .seq c63_5 c63_55
def c63_57 : ACode := .seq c63_0 c63_56
@[go_sem] def c63_0_wp := wp_of c63_0.eq_1
@[go_sem] def c63_1_wp := wp_of c63_1.eq_1
@[go_sem] def c63_2_wp := wp_of c63_2.eq_1
@[go_sem] def c63_3_wp := wp_of c63_3.eq_1
@[go_sem] def c63_4_wp := wp_of c63_4.eq_1
@[go_sem] def c63_5_wp := wp_of c63_5.eq_1
@[go_sem] def c63_6_wp := wp_of c63_6.eq_1
@[go_sem] def c63_7_wp := wp_of c63_7.eq_1
@[go_sem] def c63_8_wp := wp_of c63_8.eq_1
@[go_sem] def c63_9_wp := wp_of c63_9.eq_1
@[go_sem] def c63_10_wp := wp_of c63_10.eq_1
@[go_sem] def c63_11_wp := wp_of c63_11.eq_1
@[go_sem] def c63_12_wp := wp_of c63_12.eq_1
@[go_sem] def c63_13_wp := wp_of c63_13.eq_1
@[go_sem] def c63_14_wp := wp_of c63_14.eq_1
@[go_sem] def c63_15_wp := wp_of c63_15.eq_1
@[go_sem] def c63_16_wp := wp_of c63_16.eq_1
@[go_sem] def c63_17_wp := wp_of c63_17.eq_1
@[go_sem] def c63_18_wp := wp_of c63_18.eq_1
@[go_sem] def c63_19_wp := wp_of c63_19.eq_1
@[go_sem] def c63_20_wp := wp_of c63_20.eq_1
@[go_sem] def c63_21_wp := wp_of c63_21.eq_1
@[go_sem] def c63_22_wp := wp_of c63_22.eq_1
@[go_sem] def c63_23_wp := wp_of c63_23.eq_1
@[go_sem] def c63_24_wp := wp_of c63_24.eq_1
@[go_sem] def c63_25_wp := wp_of c63_25.eq_1
@[go_sem] def c63_26_wp := wp_of c63_26.eq_1
@[go_sem] def c63_27_wp := wp_of c63_27.eq_1
@[go_sem] def c63_28_wp := wp_of c63_28.eq_1
@[go_sem] def c63_29_wp := wp_of c63_29.eq_1
@[go_sem] def c63_30_wp := wp_of c63_30.eq_1
@[go_sem] def c63_31_wp := wp_of c63_31.eq_1
@[go_sem] def c63_32_wp := wp_of c63_32.eq_1
@[go_sem] def c63_33_wp := wp_of c63_33.eq_1
@[go_sem] def c63_34_wp := wp_of c63_34.eq_1
@[go_sem] def c63_35_wp := wp_of c63_35.eq_1
@[go_sem] def c63_36_wp := wp_of c63_36.eq_1
@[go_sem] def c63_37_wp := wp_of c63_37.eq_1
@[go_sem] def c63_38_wp := wp_of c63_38.eq_1
@[go_sem] def c63_39_wp := wp_of c63_39.eq_1
@[go_sem] def c63_40_wp := wp_of c63_40.eq_1
@[go_sem] def c63_41_wp := wp_of c63_41.eq_1
@[go_sem] def c63_42_wp := wp_of c63_42.eq_1
@[go_sem] def c63_43_wp := wp_of c63_43.eq_1
@[go_sem] def c63_44_wp := wp_of c63_44.eq_1
@[go_sem] def c63_45_wp := wp_of c63_45.eq_1
@[go_sem] def c63_46_wp := wp_of c63_46.eq_1
@[go_sem] def c63_47_wp := wp_of c63_47.eq_1
@[go_sem] def c63_48_wp := wp_of c63_48.eq_1
@[go_sem] def c63_49_wp := wp_of c63_49.eq_1
@[go_sem] def c63_50_wp := wp_of c63_50.eq_1
@[go_sem] def c63_51_wp := wp_of c63_51.eq_1
@[go_sem] def c63_52_wp := wp_of c63_52.eq_1
@[go_sem] def c63_53_wp := wp_of c63_53.eq_1
@[go_sem] def c63_54_wp := wp_of c63_54.eq_1
@[go_sem] def c63_55_wp := wp_of c63_55.eq_1
@[go_sem] def c63_56_wp := wp_of c63_56.eq_1
@[go_sem] def c63_57_wp := wp_of c63_57.eq_1
def c63 : AFn := ⟨88, [.t 4], c63_57⟩
theorem c63_ok : compF Tryz.prog Tryz.f63 = some c63 := by kernel_rfl
theorem a63 {args : List AV} {σ : ASt} {R : AV → ASt → Prop} (hl : args.length ≤ 88) (h : c63_57.wp Tryz.prog (RetQ [.t 4] R) (init args) σ) : ACalls Tryz.prog 63 args σ R := acalls_of Tryz.func63 c63_ok hl h
/-! 75: tabular/tabularref11.more -/
def c75_0 : ACode := .ops [
 ⟨some 8, none, .q (.mv (.v (.bool false))), []⟩]
def c75_1 : ACode := .ops [
 ⟨some 9, none, .q (.mv (.t 1)), []⟩,
 ⟨some 10, none, .q (.mv (.t 0)), []⟩,
 ⟨some 11, none, .q (.lenS (.t 10)), []⟩,
 ⟨some 12, none, .q (.bin .lss (.t 9) (.t 11)), []⟩,
 ⟨some 13, none, .q (.mv (.t 12)), []⟩,
 ⟨some 14, some (13, true), .q (.mv (.t 0)), []⟩,
 ⟨some 15, some (13, true), .q (.mv (.t 1)), []⟩,
 ⟨some 16, some (13, true), .q (.idx (.t 14) (.t 15)), []⟩,
 ⟨some 17, some (13, true), .q (.conv .i64 (.t 16)), []⟩,
 ⟨some 18, some (13, true), .q (.mv (.t 2)), []⟩,
 ⟨some 19, some (13, true), .q (.bin .geq (.t 17) (.t 18)), []⟩,
 ⟨some 20, none, .q (.pick (.t 13) (.t 19) (.v (.bool false))), []⟩,
 ⟨some 21, none, .q (.mv (.t 20)), []⟩,
 ⟨some 22, some (21, true), .q (.mv (.t 0)), []⟩,
 ⟨some 23, some (21, true), .q (.mv (.t 1)), []⟩,
 ⟨some 24, some (21, true), .q (.idx (.t 22) (.t 23)), []⟩,
 ⟨some 25, some (21, true), .q (.conv .i64 (.t 24)), []⟩,
 ⟨some 26, some (21, true), .q (.mv (.t 3)), []⟩,
 ⟨some 27, some (21, true), .q (.bin .leq (.t 25) (.t 26)), []⟩,
 ⟨some 28, none, .q (.pick (.t 21) (.t 27) (.v (.bool false))), []⟩,
 ⟨some 8, none, .q (.mv (.t 28)), []⟩]
def c75_2 : ACode := .seq c75_1 .ret
def c75_3 : ACode := .seq c75_0 c75_2
@[go_sem] def c75_0_wp := wp_of c75_0.eq_1
@[go_sem] def c75_1_wp := wp_of c75_1.eq_1
@[go_sem] def c75_2_wp := wp_of c75_2.eq_1
@[go_sem] def c75_3_wp := wp_of c75_3.eq_1
def c75 : AFn := ⟨29, [.t 8], c75_3⟩
theorem c75_ok : compF Tryz.prog Tryz.f75 = some c75 := by kernel_rfl
theorem a75 {args : List AV} {σ : ASt} {R : AV → ASt → Prop} (hl : args.length ≤ 29) (h : c75_3.wp Tryz.prog (RetQ [.t 8] R) (init args) σ) : ACalls Tryz.prog 75 args σ R := acalls_of Tryz.func75 c75_ok hl h
end Go.A
namespace Go.A
open Go.Proofs Go.Lib
theorem sgF_step {k : Nat} {r : List UInt8} (h0 : r ≠ []) (hv : decodeL r ≠ (65533, 1)) : sgF (k + 1) r = (sgF k (r.drop (decodeL r).2)).map (· + 1) := by
 rw [sgF, if_neg h0, if_neg hv]
theorem sgT_fuel : ∀ (k m : Nat) (r : List UInt8), r.length < k → r.length < m → sgF k r = sgF m r
 | 0, _, r, h, _ => absurd h (Nat.not_lt_zero _)
 | _, 0, r, _, h => absurd h (Nat.not_lt_zero _)
 | k + 1, m + 1, r, h1, h2 => by
   rw [sgF, sgF]
   by_cases h0 : r = []
   ·rw [if_pos h0, if_pos h0]
   ·rw [if_neg h0, if_neg h0]
    split
    ·rfl
    ·have hw := decodeL_width r
     have hl := List.length_pos_iff.2 h0
     rw [sgT_fuel k m _ (by rw [List.length_drop]; omega) (by rw [List.length_drop]; omega)]
def sgT (r : List UInt8) : Option Nat := sgF (r.length + 1) r
theorem sgT_nil : sgT [] = some 0 := rfl
theorem sgT_bad {r : List UInt8} (h0 : r ≠ []) (hv : decodeL r = (65533, 1)) : sgT r = none := by
 unfold sgT
 rw [sgF, if_neg h0, if_pos hv]
theorem sgT_step {r : List UInt8} (h0 : r ≠ []) (hv : decodeL r ≠ (65533, 1)) : sgT r = (sgT (r.drop (decodeL r).2)).map (· + 1) := by
 unfold sgT
 rw [sgF_step h0 hv]
 have hw := decodeL_width r
 have hl := List.length_pos_iff.2 h0
 rw [sgT_fuel r.length ((r.drop (decodeL r).2).length + 1) _ (by rw [List.length_drop]; omega) (by omega)]
def sgAV (s : List UInt8) : AV := match sgT s with
 | some n => .tuple [.int .i64 n, .bool true]
 | none => .tuple [.int .i64 0, .bool false]
def moreP (s : List UInt8) (at' lo hi : Nat) : Bool := decide (at' < s.length ∧ lo ≤ (s.getD at' 0).toNat ∧ (s.getD at' 0).toNat ≤ hi)
theorem more_ok (s : List UInt8) (at' lo hi : Nat) (ha : at' ≤ 9000000000000000000) : Pure Tryz.prog 75 [.str s, .int .i64 at', .int .i64 lo, .int .i64 hi] (.bool (moreP s at' lo hi)) := by
 intro σ
 refine a75 (by simp) ?_
 unfold moreP
 by_cases h : at' < s.length
 ·have h' : (at' : Int) < s.length := by omega
  have hx : s[at']? = some (s[at']'h) := List.getElem?_eq_getElem h
  obtain ⟨c, hc⟩ : ∃ c, s[at']'h = c := ⟨_, rfl⟩
  rw [hc] at hx
  have hg : s.getD at' 0 = c := by rw [List.getD_eq_getElem?_getD, hx]; rfl
  rw [hg]
  have hcb := u8_lt c
  by_cases h1 : lo ≤ c.toNat
  ·have h1' : (lo : Int) ≤ c.toNat := by omega
   by_cases h2 : c.toNat ≤ hi
   ·have h2' : (c.toNat : Int) ≤ hi := by omega
    rw [decide_eq_true ⟨h, h1, h2⟩]
    simp (disch := first | assumption | omega) only [go_sem, reduceCtorEq, Nat.reduceEqDiff, ↓reduceIte, h', hx, h1', h2']
    exact retC_by (by repeat' (first | exact Drop.refl _ | with_reducible refine Drop.off ?_ (by assumption))) (.refl _) ⟨rfl, rfl⟩
   ·have h2' : ¬ (c.toNat : Int) ≤ hi := by omega
    rw [decide_eq_false (fun h => h2 h.2.2)]
    simp (disch := first | assumption | omega) only [go_sem, reduceCtorEq, Nat.reduceEqDiff, ↓reduceIte, h', hx, h1', h2']
    exact retC_by (by repeat' (first | exact Drop.refl _ | with_reducible refine Drop.off ?_ (by assumption))) (.refl _) ⟨rfl, rfl⟩
  ·have h1' : ¬ (lo : Int) ≤ c.toNat := by omega
   rw [decide_eq_false (fun h => h1 h.2.1)]
   simp (disch := first | assumption | omega) only [go_sem, reduceCtorEq, Nat.reduceEqDiff, ↓reduceIte, h', hx, h1']
   exact retC_by (by repeat' (first | exact Drop.refl _ | with_reducible refine Drop.off ?_ (by assumption))) (.refl _) ⟨rfl, rfl⟩
 ·have h' : ¬ (at' : Int) < s.length := by omega
  rw [decide_eq_false (fun h2 => h h2.1)]
  simp (disch := first | assumption | omega) only [go_sem, reduceCtorEq, Nat.reduceEqDiff, ↓reduceIte, h']
  exact retC_by (by repeat' (first | exact Drop.refl _ | with_reducible refine Drop.off ?_ (by assumption))) (.refl _) ⟨rfl, rfl⟩
def sigL (r : List UInt8) : Nat := if r = [] then 0 else if decodeL r = (65533, 1) then 0 else (decodeL r).2
def sigN (n b0 b1 b2 b3 : Nat) : Nat :=
 let lo := if b0 = 224 then 160 else if b0 = 240 then 144 else 128
 let hi := if b0 = 237 then 159 else if b0 = 244 then 143 else 191
 if b0 < 128 then 1
 else if 194 ≤ b0 ∧ b0 ≤ 223 ∧ (1 < n ∧ 128 ≤ b1 ∧ b1 ≤ 191) then 2
 else if 224 ≤ b0 ∧ b0 ≤ 239 ∧ (1 < n ∧ lo ≤ b1 ∧ b1 ≤ hi) ∧ (2 < n ∧ 128 ≤ b2 ∧ b2 ≤ 191) then 3
 else if 240 ≤ b0 ∧ b0 ≤ 244 ∧ (1 < n ∧ lo ≤ b1 ∧ b1 ≤ hi) ∧ (2 < n ∧ 128 ≤ b2 ∧ b2 ≤ 191) ∧ (3 < n ∧ 128 ≤ b3 ∧ b3 ≤ 191) then 4
 else 0
set_option maxHeartbeats 2000000 in
theorem sigN_eq {n b0 b1 b2 b3 : Nat} (h0 : b0 < 256) (h1 : b1 < 256) (h2 : b2 < 256) (h3 : b3 < 256) : sigN n b0 b1 b2 b3 = if decodeN n b0 b1 b2 b3 = (65533, 1) then 0 else (decodeN n b0 b1 b2 b3).2 := by
 have key : ∀ (x : Nat × Nat) (v : Nat), v = (if x = (65533, 1) then 0 else x.2) ↔ (x.1 = 65533 ∧ x.2 = 1 → v = 0) ∧ (¬ (x.1 = 65533 ∧ x.2 = 1) → v = x.2) := by
  intro x v
  obtain ⟨x1, x2⟩ := x
  simp only [Prod.mk.injEq]
  split
  ·rename_i h; exact ⟨fun e => ⟨fun _ => e, fun hn => absurd h hn⟩, fun hh => hh.1 h⟩
  ·rename_i h; exact ⟨fun e => ⟨fun hh => absurd hh h, fun _ => e⟩, fun hh => hh.2 h⟩
 rw [key]
 unfold sigN decodeN
 dsimp only
 by_cases c1 : b0 < 128
 ·simp only [if_pos c1]; exact ⟨fun h => by omega, fun _ => trivial⟩
 simp only [if_neg c1]
 by_cases c2 : b0 / 32 = 6
 ·rw [if_neg (show ¬ (224 ≤ b0 ∧ b0 ≤ 239 ∧ _) from fun h => by omega), if_neg (show ¬ (240 ≤ b0 ∧ b0 ≤ 244 ∧ _) from fun h => by omega)]
  rw [if_neg (show ¬ (b0 / 16 = 14 ∧ _) from fun h => by omega), if_neg (show ¬ (b0 / 8 = 30 ∧ _) from fun h => by omega)]
  repeat' split
  all_goals (dsimp only; omega)
 rw [if_neg (show ¬ (194 ≤ b0 ∧ b0 ≤ 223 ∧ _) from fun h => by omega), if_neg (show ¬ (b0 / 32 = 6 ∧ _) from fun h => by omega)]
 by_cases c3 : b0 / 16 = 14
 ·rw [if_neg (show ¬ (240 ≤ b0 ∧ b0 ≤ 244 ∧ _) from fun h => by omega), if_neg (show ¬ (b0 / 8 = 30 ∧ _) from fun h => by omega)]
  rw [if_neg (show ¬ b0 = 240 by omega), if_neg (show ¬ b0 = 244 by omega)]
  repeat' split
  all_goals (dsimp only; omega)
 rw [if_neg (show ¬ (224 ≤ b0 ∧ b0 ≤ 239 ∧ _) from fun h => by omega), if_neg (show ¬ (b0 / 16 = 14 ∧ _) from fun h => by omega)]
 rw [if_neg (show ¬ b0 = 224 by omega), if_neg (show ¬ b0 = 237 by omega)]
 repeat' split
 all_goals (dsimp only; omega)
theorem sigL_N {r : List UInt8} (h : r ≠ []) : sigL r = sigN r.length (r.getD 0 0).toNat (r.getD 1 0).toNat (r.getD 2 0).toNat (r.getD 3 0).toNat := by
 unfold sigL
 rw [if_neg h, decodeL_N, sigN_eq (UInt8.toNat_lt _) (UInt8.toNat_lt _) (UInt8.toNat_lt _) (UInt8.toNat_lt _)]
theorem more_at (s : List UInt8) (p k lo hi : Nat) (hp : p + k ≤ 9000000000000000000) : Pure Tryz.prog 75 [.str s, .int .i64 ((p : Int) + k), .int .i64 lo, .int .i64 hi] (.bool (moreP s (p + k) lo hi)) := by
 have := more_ok s (p + k) lo hi hp
 rw [Int.natCast_add] at this
 exact this
theorem more_iff (s : List UInt8) (p k lo hi : Nat) (hp : p ≤ s.length) : moreP s (p + k) lo hi = true ↔ (k < (s.drop p).length ∧ lo ≤ ((s.drop p).getD k 0).toNat ∧ ((s.drop p).getD k 0).toNat ≤ hi) := by
 unfold moreP
 rw [decide_eq_true_eq, getD_dropU, List.length_drop]
 constructor
 ·rintro ⟨h1, h2, h3⟩; exact ⟨by omega, h2, h3⟩
 ·rintro ⟨h1, h2, h3⟩; exact ⟨by omega, h2, h3⟩
set_option maxHeartbeats 2000000 in
theorem rsign_ok (s : List UInt8) (p : Nat) (hp : p ≤ s.length) (hl : s.length ≤ 4611686018427387904) : Pure Tryz.prog 63 [.str s, .int .i64 p] (.int .i64 (sigL (s.drop p) : Nat)) := by
 intro σ
 refine a63 (by simp) ?_
 by_cases hlt : p < s.length
 ·have hlt' : ¬ (s.length : Int) ≤ p := by omega
  have hne : s.drop p ≠ [] := by
   intro e
   have := congrArg List.length e
   rw [List.length_drop] at this
   simp at this
   omega
  have hx : s[p]? = some (s[p]'hlt) := List.getElem?_eq_getElem hlt
  obtain ⟨c, hc⟩ : ∃ c, s[p]'hlt = c := ⟨_, rfl⟩
  rw [hc] at hx
  have hb0 : ((s.drop p).getD 0 0).toNat = c.toNat := by rw [getD_dropU, List.getD_eq_getElem?_getD, Nat.add_zero, hx]; rfl
  rw [sigL_N hne, hb0]
  have hcb := u8_lt c
  have m1 := more_iff s p 1 128 191 hp
  have m2 := more_iff s p 2 128 191 hp
  have m3 := more_iff s p 3 128 191 hp
  have q1 := more_at s p 1 128 191 (by omega)
  have q2 := more_at s p 2 128 191 (by omega)
  have q3 := more_at s p 3 128 191 (by omega)
  have mm := fun lo hi => more_iff s p 1 lo hi hp
  have qq := fun lo hi => more_at s p 1 lo hi (by omega)
  generalize ((s.drop p).getD 1 0).toNat = b1 at *
  generalize ((s.drop p).getD 2 0).toNat = b2 at *
  generalize ((s.drop p).getD 3 0).toNat = b3 at *
  generalize (s.drop p).length = n at *
  obtain ⟨C, hC⟩ : ∃ C, c.toNat = C := ⟨_, rfl⟩
  rw [hC] at hcb ⊢
  have e1 : ((1 : Nat) : Int) = 1 := rfl
  have e2 : ((2 : Nat) : Int) = 2 := rfl
  have e3 : ((3 : Nat) : Int) = 3 := rfl
  have e128 : ((128 : Nat) : Int) = 128 := rfl
  have e191 : ((191 : Nat) : Int) = 191 := rfl
  rw [e1, e128, e191] at q1
  rw [e2, e128, e191] at q2
  rw [e3, e128, e191] at q3
  simp only [e1] at qq
  generalize hM1 : moreP s (p + 1) 128 191 = M1 at *
  generalize moreP s (p + 2) 128 191 = M2 at *
  generalize moreP s (p + 3) 128 191 = M3 at *
  obtain ⟨F, hF⟩ : ∃ F, F = ACode.wp Tryz.prog c63_47 := ⟨_, rfl⟩
  have tail : ∀ (a1 : AFr) (lo hi : Nat) (T : Nat), (a1 0 = .str s ∧ a1 1 = .int .i64 p ∧ a1 5 = .int .i64 C ∧ a1 6 = .int .i64 lo ∧ a1 7 = .int .i64 hi) →
    T = (if 224 ≤ C ∧ C ≤ 239 ∧ moreP s (p + 1) lo hi = true ∧ M2 = true then 3 else if 240 ≤ C ∧ C ≤ 244 ∧ moreP s (p + 1) lo hi = true ∧ M2 = true ∧ M3 = true then 4 else 0) → F (RetQ [.t 4] fun v σ' => v = .int .i64 T ∧ σ' = σ) a1 σ := by
   intro a1 lo hi T hf hT
   rw [hF]
   have q := qq lo hi
   generalize moreP s (p + 1) lo hi = M at *
   by_cases g1 : 224 ≤ C
   ·have g1' : (224 : Int) ≤ C := by omega
    by_cases g2 : C ≤ 239
    ·have g2' : (C : Int) ≤ 239 := by omega
     have g3' : ¬ (240 : Int) ≤ C := by omega
     simp (disch := first | assumption | omega) only [go_sem, reduceCtorEq, Nat.reduceEqDiff, ↓reduceIte, hf, g1', g2']
     refine q.use ?_
     cases M with
     | false =>
       rw [if_neg (by simp), if_neg (by simp)] at hT
       subst hT
       simp (disch := first | assumption | omega) only [go_sem, Nat.reduceEqDiff, ↓reduceIte, hf, g3']
       exact retC_by (by repeat' (first | exact Drop.refl _ | with_reducible refine Drop.off ?_ (by assumption))) (.refl _) ⟨rfl, rfl⟩
     | true =>
       simp (disch := first | assumption | omega) only [go_sem, reduceCtorEq, Nat.reduceEqDiff, ↓reduceIte, hf]
       refine q2.use ?_
       cases M2 with
       | false =>
         rw [if_neg (by simp), if_neg (by simp)] at hT
         subst hT
         simp (disch := first | assumption | omega) only [go_sem, Nat.reduceEqDiff, ↓reduceIte, hf, g3']
         exact retC_by (by repeat' (first | exact Drop.refl _ | with_reducible refine Drop.off ?_ (by assumption))) (.refl _) ⟨rfl, rfl⟩
       | true =>
         rw [if_pos ⟨g1, g2, rfl, rfl⟩] at hT
         subst hT
         simp (disch := first | assumption | omega) only [go_sem, Nat.reduceEqDiff, ↓reduceIte]
         exact retC_by (by repeat' (first | exact Drop.refl _ | with_reducible refine Drop.off ?_ (by assumption))) (.refl _) ⟨rfl, rfl⟩
    ·have g2' : ¬ (C : Int) ≤ 239 := by omega
     have g3' : (240 : Int) ≤ C := by omega
     rw [if_neg (fun h => g2 h.2.1)] at hT
     by_cases g4 : C ≤ 244
     ·have g4' : (C : Int) ≤ 244 := by omega
      simp (disch := first | assumption | omega) only [go_sem, reduceCtorEq, Nat.reduceEqDiff, ↓reduceIte, hf, g1', g2', g3', g4']
      refine q.use ?_
      cases M with
      | false =>
        rw [if_neg (by simp)] at hT
        subst hT
        simp (disch := first | assumption | omega) only [go_sem, Nat.reduceEqDiff, ↓reduceIte]
        exact retC_by (by repeat' (first | exact Drop.refl _ | with_reducible refine Drop.off ?_ (by assumption))) (.refl _) ⟨rfl, rfl⟩
      | true =>
        simp (disch := first | assumption | omega) only [go_sem, reduceCtorEq, Nat.reduceEqDiff, ↓reduceIte, hf]
        refine q2.use ?_
        cases M2 with
        | false =>
          rw [if_neg (by simp)] at hT
          subst hT
          simp (disch := first | assumption | omega) only [go_sem, Nat.reduceEqDiff, ↓reduceIte]
          exact retC_by (by repeat' (first | exact Drop.refl _ | with_reducible refine Drop.off ?_ (by assumption))) (.refl _) ⟨rfl, rfl⟩
        | true =>
          simp (disch := first | assumption | omega) only [go_sem, reduceCtorEq, Nat.reduceEqDiff, ↓reduceIte, hf]
          refine q3.use ?_
          cases M3 with
          | false =>
            rw [if_neg (by simp)] at hT
            subst hT
            simp (disch := first | assumption | omega) only [go_sem, Nat.reduceEqDiff, ↓reduceIte]
            exact retC_by (by repeat' (first | exact Drop.refl _ | with_reducible refine Drop.off ?_ (by assumption))) (.refl _) ⟨rfl, rfl⟩
          | true =>
            rw [if_pos ⟨by omega, g4, rfl, rfl, rfl⟩] at hT
            subst hT
            simp (disch := first | assumption | omega) only [go_sem, Nat.reduceEqDiff, ↓reduceIte]
            exact retC_by (by repeat' (first | exact Drop.refl _ | with_reducible refine Drop.off ?_ (by assumption))) (.refl _) ⟨rfl, rfl⟩
     ·have g4' : ¬ (C : Int) ≤ 244 := by omega
      rw [if_neg (fun h => g4 h.2.1)] at hT
      subst hT
      simp (disch := first | assumption | omega) only [go_sem, Nat.reduceEqDiff, ↓reduceIte, hf, g1', g2', g3', g4']
      exact retC_by (by repeat' (first | exact Drop.refl _ | with_reducible refine Drop.off ?_ (by assumption))) (.refl _) ⟨rfl, rfl⟩
   ·have g1' : ¬ (224 : Int) ≤ C := by omega
    have g3' : ¬ (240 : Int) ≤ C := by omega
    rw [if_neg (fun h => g1 h.1), if_neg (fun h => by omega)] at hT
    subst hT
    simp (disch := first | assumption | omega) only [go_sem, Nat.reduceEqDiff, ↓reduceIte, hf, g1', g3']
    exact retC_by (by repeat' (first | exact Drop.refl _ | with_reducible refine Drop.off ?_ (by assumption))) (.refl _) ⟨rfl, rfl⟩
  have hCw : IntKind.i64.wrap (C : Int) = C := by rw [IntKind.wrap_i64]; omega
  by_cases c1 : C < 128
  ·have c1' : (C : Int) < 128 := by omega
   unfold sigN
   rw [if_pos c1]
   simp (disch := first | assumption | omega) only [go_sem, reduceCtorEq, Nat.reduceEqDiff, ↓reduceIte, hlt', hx, hC, hCw, c1']
   exact retC_by (by repeat' (first | exact Drop.refl _ | with_reducible refine Drop.off ?_ (by assumption))) (.refl _) ⟨rfl, rfl⟩
  have c1' : ¬ (C : Int) < 128 := by omega
  have step2 : ∀ (a1 : AFr), ¬ (194 ≤ C ∧ C ≤ 223 ∧ M1 = true) → (a1 0 = .str s ∧ a1 1 = .int .i64 p ∧ a1 5 = .int .i64 C) → ACode.wp Tryz.prog c63_52 (RetQ [.t 4] fun v σ' => v = .int .i64 (sigN n C b1 b2 b3 : Nat) ∧ σ' = σ) a1 σ := by
   intro a1 hno hf
   have fold : ∀ lo hi : Nat, lo = (if C = 224 then 160 else if C = 240 then 144 else 128) → hi = (if C = 237 then 159 else if C = 244 then 143 else 191) → sigN n C b1 b2 b3 = (if 224 ≤ C ∧ C ≤ 239 ∧ moreP s (p + 1) lo hi = true ∧ M2 = true then 3 else if 240 ≤ C ∧ C ≤ 244 ∧ moreP s (p + 1) lo hi = true ∧ M2 = true ∧ M3 = true then 4 else 0) := by
    intro lo hi hlo hhi
    unfold sigN
    dsimp only
    rw [← hlo, ← hhi, if_neg c1, if_neg (fun h => hno ⟨h.1, h.2.1, m1.2 h.2.2⟩)]
    simp only [mm lo hi, m2, m3]
   by_cases k1 : C = 224
   ·have k1' : (C : Int) = 224 := by omega
    simp (disch := first | assumption | omega) only [go_sem, Nat.reduceEqDiff, Int.reduceEq, ↓reduceIte, hf, k1', ←hF]
    subst k1
    refine tail _ 160 191 _ ?_ (fold 160 191 (by simp) (by simp))
    simp (disch := first | assumption | omega) only [go_sem, reduceCtorEq, Nat.reduceEqDiff, ↓reduceIte, hf]
   have k1' : ¬ (C : Int) = 224 := by omega
   by_cases k2 : C = 240
   ·have k2' : (C : Int) = 240 := by omega
    simp (disch := first | assumption | omega) only [go_sem, Nat.reduceEqDiff, Int.reduceEq, ↓reduceIte, hf, k2', ←hF]
    subst k2
    refine tail _ 144 191 _ ?_ (fold 144 191 (by simp) (by simp))
    simp (disch := first | assumption | omega) only [go_sem, reduceCtorEq, Nat.reduceEqDiff, ↓reduceIte, hf]
   have k2' : ¬ (C : Int) = 240 := by omega
   by_cases k3 : C = 237
   ·have k3' : (C : Int) = 237 := by omega
    simp (disch := first | assumption | omega) only [go_sem, Nat.reduceEqDiff, Int.reduceEq, ↓reduceIte, hf, k3', ←hF]
    subst k3
    refine tail _ 128 159 _ ?_ (fold 128 159 (by simp) (by simp))
    simp (disch := first | assumption | omega) only [go_sem, reduceCtorEq, Nat.reduceEqDiff, ↓reduceIte, hf]
   have k3' : ¬ (C : Int) = 237 := by omega
   by_cases k4 : C = 244
   ·have k4' : (C : Int) = 244 := by omega
    simp (disch := first | assumption | omega) only [go_sem, Nat.reduceEqDiff, Int.reduceEq, ↓reduceIte, hf, k4', ←hF]
    subst k4
    refine tail _ 128 143 _ ?_ (fold 128 143 (by simp) (by simp))
    simp (disch := first | assumption | omega) only [go_sem, reduceCtorEq, Nat.reduceEqDiff, ↓reduceIte, hf]
   have k4' : ¬ (C : Int) = 244 := by omega
   simp (disch := first | assumption | omega) only [go_sem, Nat.reduceEqDiff, ↓reduceIte, hf, k1', k2', k3', k4', ←hF]
   refine tail _ 128 191 _ ?_ (fold 128 191 (by rw [if_neg k1, if_neg k2]) (by rw [if_neg k3, if_neg k4]))
   simp (disch := first | assumption | omega) only [go_sem, reduceCtorEq, Nat.reduceEqDiff, ↓reduceIte, hf]
  obtain ⟨G, hG⟩ : ∃ G, G = ACode.wp Tryz.prog c63_52 := ⟨_, rfl⟩
  rw [← hG] at step2
  by_cases c2 : 194 ≤ C
  ·have c2' : (194 : Int) ≤ C := by omega
   by_cases c3 : C ≤ 223
   ·have c3' : (C : Int) ≤ 223 := by omega
    simp (disch := first | assumption | omega) only [go_sem, reduceCtorEq, Nat.reduceEqDiff, ↓reduceIte, hlt', hx, hC, hCw, c1', c2', c3', ←hG]
    refine q1.use ?_
    cases M1 with
    | true =>
      unfold sigN
      dsimp only
      rw [if_neg c1, if_pos ⟨c2, c3, m1.1 rfl⟩]
      simp (disch := first | assumption | omega) only [go_sem, Nat.reduceEqDiff, ↓reduceIte]
      exact retC_by (by repeat' (first | exact Drop.refl _ | with_reducible refine Drop.off ?_ (by assumption))) (.refl _) ⟨rfl, rfl⟩
    | false =>
      simp (disch := first | assumption | omega) only [go_sem, Nat.reduceEqDiff, ↓reduceIte]
      refine step2 _ (fun h => by cases h.2.2) ?_
      simp (disch := first | assumption | omega) only [go_sem, reduceCtorEq, Nat.reduceEqDiff, ↓reduceIte]
   ·have c3' : ¬ (C : Int) ≤ 223 := by omega
    simp (disch := first | assumption | omega) only [go_sem, reduceCtorEq, Nat.reduceEqDiff, ↓reduceIte, hlt', hx, hC, hCw, c1', c2', c3', ←hG]
    refine step2 _ (fun h => c3 h.2.1) ?_
    simp (disch := first | assumption | omega) only [go_sem, reduceCtorEq, Nat.reduceEqDiff, ↓reduceIte]
  ·have c2' : ¬ (194 : Int) ≤ C := by omega
   simp (disch := first | assumption | omega) only [go_sem, reduceCtorEq, Nat.reduceEqDiff, ↓reduceIte, hlt', hx, hC, hCw, c1', c2', ←hG]
   refine step2 _ (fun h => c2 h.1) ?_
   simp (disch := first | assumption | omega) only [go_sem, reduceCtorEq, Nat.reduceEqDiff, ↓reduceIte]
 ·have hlt' : (s.length : Int) ≤ p := by omega
  rw [List.drop_eq_nil_of_le (by omega)]
  simp (disch := first | assumption | omega) only [go_sem, reduceCtorEq, Nat.reduceEqDiff, ↓reduceIte, hlt']
  exact retC_by (by repeat' (first | exact Drop.refl _ | with_reducible refine Drop.off ?_ (by assumption))) (.refl _) ⟨rfl, rfl⟩
theorem sigL_bad {r : List UInt8} (h0 : r ≠ []) (h : sigL r = 0) : sgT r = none := by
 unfold sigL at h
 rw [if_neg h0] at h
 by_cases hb : decodeL r = (65533, 1)
 ·exact sgT_bad h0 hb
 ·rw [if_neg hb] at h
  have := decodeL_width r
  omega
theorem sigL_step {r : List UInt8} (h0 : r ≠ []) (h : sigL r ≠ 0) : sgT r = (sgT (r.drop (sigL r))).map (· + 1) ∧ sigL r ≤ r.length := by
 unfold sigL at h ⊢
 rw [if_neg h0] at h ⊢
 by_cases hb : decodeL r = (65533, 1)
 ·rw [if_pos hb] at h; exact absurd rfl h
 ·rw [if_neg hb]
  exact ⟨sgT_step h0 hb, decodeL_le r h0⟩
set_option maxHeartbeats 1000000 in
theorem rsigns_ok (s : List UInt8) (hl : s.length ≤ 4611686018427387904) : Pure Tryz.prog 45 [.str s] (sgAV s) := by
 intro σ
 refine a45 (by simp) ?_
 obtain ⟨R, hR⟩ : ∃ R, sgT s = R := ⟨_, rfl⟩
 unfold sgAV
 rw [hR]
 simp (disch := first | assumption | omega) only [go_sem]
 refine wp_loop_on (fun (p : Nat) a s2 => p ≤ s.length ∧ (∃ n : Nat, R = (sgT (s.drop p)).map (· + n) ∧ n ≤ p ∧ a 4 = .int .i64 n) ∧ (a 0 = .str s ∧ a 5 = .int .i64 p) ∧ s2 = σ) (fun p => s.length - p) 0 ⟨Nat.zero_le _, ⟨0, ?_, Nat.le_refl _, ?_⟩, ?_, rfl⟩ ?_
 ·rw [← hR, List.drop_zero]; cases sgT s <;> rfl
 ·simp (disch := first | assumption | omega) only [go_sem, Nat.reduceEqDiff, ↓reduceIte]
 ·simp (disch := first | assumption | omega) only [go_sem, reduceCtorEq, ↓reduceIte]
 rintro p a s2 ⟨hp, ⟨n, hm, hn, h4⟩, hf, rfl⟩
 by_cases hlt : p < s.length
 ·have hlt' : (p : Int) < s.length := by omega
  have hne : s.drop p ≠ [] := by
   intro e
   have := congrArg List.length e
   rw [List.length_drop] at this
   simp at this
   omega
  have hS := rsign_ok s p hp hl
  have hbad := sigL_bad hne
  have hstep := sigL_step hne
  rw [List.length_drop] at hstep
  generalize sigL (s.drop p) = w at *
  by_cases hw : w = 0
  ·have hw' : (w : Int) = 0 := by omega
   rw [hbad hw] at hm
   simp only [Option.map_none] at hm
   subst hm
   simp (disch := first | assumption | omega) only [go_sem, reduceCtorEq, Nat.reduceEqDiff, ↓reduceIte, hf, hlt']
   refine hS.use ?_
   simp (disch := first | assumption | omega) only [go_sem, Nat.reduceEqDiff, ↓reduceIte, hw']
   exact retC_by (by repeat' (first | exact Drop.refl _ | with_reducible refine Drop.off ?_ (by assumption))) (.refl _) ⟨rfl, rfl⟩
  ·have hw' : ¬ (w : Int) = 0 := by omega
   obtain ⟨h1, h2⟩ := hstep hw
   rw [h1, List.drop_drop, Option.map_map] at hm
   simp (disch := first | assumption | omega) only [go_sem, reduceCtorEq, Nat.reduceEqDiff, ↓reduceIte, hf, hlt']
   refine hS.use ?_
   simp (disch := first | assumption | omega) only [go_sem, reduceCtorEq, Nat.reduceEqDiff, ↓reduceIte, hf, h4, hw']
   refine ⟨p + w, by omega, by omega, ⟨n + 1, ?_, by omega, rfl⟩, rfl⟩
   rw [hm]
   congr 1
   funext x
   simp only [Function.comp]
   omega
 ·have hlt' : ¬ (p : Int) < s.length := by omega
  rw [List.drop_eq_nil_of_le (by omega), sgT_nil] at hm
  simp only [Option.map_some, Nat.zero_add] at hm
  subst hm
  simp (disch := first | assumption | omega) only [go_sem, reduceCtorEq, Nat.reduceEqDiff, ↓reduceIte, hf, h4, hlt']
  exact retC_by (by repeat' (first | exact Drop.refl _ | with_reducible refine Drop.off ?_ (by assumption))) (.refl _) ⟨rfl, rfl⟩
end Go.A
namespace Go.A
open Go.Proofs Go.Lib
structure Pt where
 op : Int
 n : Int
 s : List UInt8
 a : Ref
 b : Ref
 deriving Inhabited
def Pt.cs (p : Pt) : List AV := [.int .i64 p.op, .int .i64 p.n, .str p.s, .int .i64 p.a.row, .int .i64 p.a.col, .bool p.a.absRow, .bool p.a.absCol, .int .i64 p.b.row, .int .i64 p.b.col, .bool p.b.absRow, .bool p.b.absCol]
def Pt.av (p : Pt) : AV := .agg p.cs
section
variable {p : Pt}
@[go_sem] theorem pt_0 : (Pt.cs p)[0]? = some (.int .i64 p.op) := id rfl
@[go_sem] theorem pt_1 : (Pt.cs p)[1]? = some (.int .i64 p.n) := id rfl
@[go_sem] theorem pt_2 : (Pt.cs p)[2]? = some (.str p.s) := id rfl
@[go_sem] theorem pt_len : (Pt.cs p).length = 11 := id rfl
@[go_sem] theorem pt_leaves : leaves (Pt.cs p) = true := id rfl
@[go_sem] theorem pt_take : (Pt.cs p).take 11 = Pt.cs p := id rfl
@[go_sem] theorem pt_ta : ((Pt.cs p).drop 3).take 4 = [.int .i64 p.a.row, .int .i64 p.a.col, .bool p.a.absRow, .bool p.a.absCol] := id rfl
@[go_sem] theorem pt_tb : ((Pt.cs p).drop 7).take 4 = [.int .i64 p.b.row, .int .i64 p.b.col, .bool p.b.absRow, .bool p.b.absCol] := id rfl
end
theorem Pt.get {l : List Pt} {i : Nat} {x : Pt} (h : l[i]? = some x) : (l.map Pt.av)[i]? = some (.agg x.cs) := by rw [List.getElem?_map, h]; rfl
def ndV (o m : Int) (s : List UInt8) (a b : Ref) (v : AV) : List AV := [.int .i64 o, .int .i64 m, .str s, .int .i64 a.row, .int .i64 a.col, .bool a.absRow, .bool a.absCol, .int .i64 b.row, .int .i64 b.col, .bool b.absRow, .bool b.absCol, v]
section
variable {o m : Int} {s : List UInt8} {a b : Ref} {v w : AV}
@[go_sem] theorem nv_0 : (ndV o m s a b v)[0]? = some (.int .i64 o) := id rfl
@[go_sem] theorem nv_11 : (ndV o m s a b v)[11]? = some v := id rfl
@[go_sem] theorem nv_len : (ndV o m s a b v).length = 12 := id rfl
@[go_sem] theorem nv_take : (ndV o m s a b v).take 12 = ndV o m s a b v := id rfl
@[go_sem] theorem nv_drop : (ndV o m s a b v).drop 12 = [] := id rfl
@[go_sem] theorem nv_put'' : (ndV o m s a b v).take 11 ++ [w] = ndV o m s a b w := id rfl
theorem nv_leaves (h : v.leaf = true) : leaves (ndV o m s a b v) = true := by
 cases v <;> first | rfl | cases h
end
theorem mod2 (x : Int) {m : Int} (hm : 0 < m) : (-m < x.tmod m ∧ x.tmod m < m) ∧ 0 ≤ (x.tmod m + m).tmod m ∧ (x.tmod m + m).tmod m < m := by
 have h1 := Int.lt_tmod_of_pos x hm
 have h2 := Int.tmod_lt_of_pos x hm
 exact ⟨⟨h1, h2⟩, Int.tmod_nonneg _ (by omega), Int.tmod_lt_of_pos _ hm⟩
def opG (x : Int) : Int := 1 + (x.tmod 23 + 23).tmod 23
def kkG (x : Int) : Int := (x.tmod 100000 + 100000).tmod 100000
def placeR (r : Ref) : Ref := ⟨(r.row.tmod 3000 + 3000).tmod 3000, (r.col.tmod 700 + 700).tmod 700, r.absRow, r.absCol⟩
def cntG (op kk : Int) : Nat := if op = 7 ∨ op = 8 ∨ op = 9 then 1 else if op = 22 then ((kk.tdiv 4).tmod 4).toNat else if 10 ≤ op ∧ op ≤ 21 then 2 else 0
def callL : List (List UInt8) := [[83, 85, 77], [73, 70], [88, 46, 89], [95, 65]]
def nodeG (p : Pt) (ks : List Nd) : Nd :=
 if opG p.op = 1 then .mk 1 (kkG p.n) [] .zero .zero ks
 else if opG p.op = 3 then .mk 3 ((kkG p.n).tmod 2) [] .zero .zero ks
 else if opG p.op = 4 then .mk 4 ((1 + (kkG p.n).tmod 7) * 10000) [] .zero .zero ks
 else if opG p.op = 2 then .mk 2 0 (if (sgT (p.s.take 20)).isSome = true then p.s.take 20 else []) .zero .zero ks
 else if opG p.op = 5 then .mk 5 0 [] (placeR p.a) .zero ks
 else if opG p.op = 6 then .mk 6 0 [] (placeR p.a) (placeR p.b) ks
 else if opG p.op = 23 then .mk 3 0 [] .zero .zero ks
 else if opG p.op = 22 then .mk 22 0 (callL.getD ((kkG p.n).tmod 4).toNat []) .zero .zero ks
 else .mk (opG p.op) 0 [] .zero .zero ks
def missN : Nd := .mk 23 0 [] .zero .zero []
def missG (op kk : Int) (ks : List Nd) : List Nd := if op = 22 ∧ 1 < ks.length ∧ kk.tmod 3 = 0 then missN :: ks.tail else ks
def growN (g : Nat → Nd × Nat) : Nat → Nat → List Nd × Nat
 | 0, i => ([], i)
 | c + 1, i => ((g i).1 :: (growN g c (g i).2).1, (growN g c (g i).2).2)
def growK (L : List Pt) : Nat → Nat → Nd × Nat
 | 0, i => (.mk 1 0 [] .zero .zero [], i)
 | k + 1, i => match L[i]? with
   | none => (.mk 1 0 [] .zero .zero [], i)
   | some p => (nodeG p (missG (opG p.op) (kkG p.n) (growN (growK L k) (cntG (opG p.op) (kkG p.n)) (i + 1)).1), (growN (growK L k) (cntG (opG p.op) (kkG p.n)) (i + 1)).2)
def growP (L : List Pt) : Nd := (growK (L.take 40) 41 0).1
theorem opG_rng (x : Int) : 1 ≤ opG x ∧ opG x ≤ 23 := by have := (mod2 x (m := 23) (by decide)).2; unfold opG; omega
theorem kkG_rng (x : Int) : 0 ≤ kkG x ∧ kkG x ≤ 99999 := by have := (mod2 x (m := 100000) (by decide)).2; unfold kkG; omega
theorem placeR_good (r : Ref) : (placeR r).good = true := by
 have h1 := (mod2 r.row (m := 3000) (by decide)).2
 have h2 := (mod2 r.col (m := 700) (by decide)).2
 unfold Ref.good placeR
 exact decide_eq_true ⟨h1.1, h1.2, h2.1, h2.2⟩
theorem cntG_le (op kk : Int) (h : 0 ≤ kk) : cntG op kk ≤ 3 := by
 unfold cntG
 repeat' split
 all_goals try omega
 have := Int.tmod_lt_of_pos (kk.tdiv 4) (show (0 : Int) < 4 by decide)
 omega
theorem growN_len (g : Nat → Nd × Nat) : ∀ c i, (growN g c i).1.length = c
 | 0, i => rfl
 | c + 1, i => by rw [growN, List.length_cons, growN_len g c]
theorem missG_len (op kk : Int) (ks : List Nd) : (missG op kk ks).length = ks.length := by
 unfold missG
 split
 ·rename_i h
  rw [List.length_cons, List.length_tail]; omega
 ·rfl
theorem growN_ge (g : Nat → Nd × Nat) (hg : ∀ i, i ≤ (g i).2) : ∀ c i, i ≤ (growN g c i).2
 | 0, i => Nat.le_refl _
 | c + 1, i => by rw [growN]; exact Nat.le_trans (hg i) (growN_ge g hg c _)
theorem growK_ge (L : List Pt) : ∀ k i, i ≤ (growK L k i).2
 | 0, i => Nat.le_refl _
 | k + 1, i => by
   rw [growK]
   split
   ·exact Nat.le_refl _
   ·have := growN_ge (growK L k) (growK_ge L k) (cntG (opG (‹Pt› : Pt).op) (kkG (‹Pt› : Pt).n)) (i + 1)
    dsimp only
    omega
theorem growN_le (g : Nat → Nd × Nat) (M : Nat) (hg : ∀ i, i ≤ M → (g i).2 ≤ M) : ∀ c i, i ≤ M → (growN g c i).2 ≤ M
 | 0, i, h => h
 | c + 1, i, h => by rw [growN]; exact growN_le g M hg c _ (hg i h)
theorem growK_le (L : List Pt) (M : Nat) (hM : L.length ≤ M) : ∀ k i, i ≤ M → (growK L k i).2 ≤ M
 | 0, i, h => h
 | k + 1, i, h => by
   rw [growK]
   split
   ·exact h
   ·rename_i p hp
    have hi : i < L.length := (List.getElem?_eq_some_iff.1 hp).1
    exact growN_le (growK L k) M (growK_le L M hM k) _ _ (by omega)
end Go.A
namespace Go.A
open Go.Proofs Go.Lib
def zero12 : List AV := [.int .i64 0, .int .i64 0, .str [], .int .i64 0, .int .i64 0, .bool false, .bool false, .int .i64 0, .int .i64 0, .bool false, .bool false, .sl .full []]
theorem place_ok (r : Ref) : Pure Tryz.prog 47 [refAV r] (refAV (placeR r)) := by
 intro σ
 have m1 := mod2 r.row (m := 3000) (by decide)
 have m2 := mod2 r.col (m := 700) (by decide)
 obtain ⟨row, col, ar, ac⟩ := r
 unfold refAV placeR
 dsimp only at m1 m2 ⊢
 obtain ⟨x, hx⟩ : ∃ x, row.tmod 3000 = x := ⟨_, rfl⟩
 obtain ⟨y, hy⟩ : ∃ y, (x + 3000).tmod 3000 = y := ⟨_, rfl⟩
 obtain ⟨z, hz⟩ : ∃ z, col.tmod 700 = z := ⟨_, rfl⟩
 obtain ⟨w, hw⟩ : ∃ w, (z + 700).tmod 700 = w := ⟨_, rfl⟩
 rw [hx, hy] at m1 ⊢
 rw [hz, hw] at m2 ⊢
 refine a47 (by simp) ?_
 simp (disch := first | assumption | omega) only [go_sem]
 refine boxC_by rfl fun c hc => ?_
 simp (disch := first | assumption | omega) only [go_sem]
 refine allocC_by fun d hd => ?_
 have hcd : c ≠ d := by rintro rfl; rw [ASt.set_same] at hd; cases hd
 repeat (with_reducible replace hd := set_none hd; obtain ⟨_, _, hd⟩ := hd)
 have hsw : ∀ (ρ : ASt) (X Y Z : Option Role), ((ρ.set c X).set d Y).set c Z = (ρ.set c Z).set d Y := fun _ _ _ _ => set_mid hcd
 simp (disch := first | assumption | omega) only [go_sem, Nat.reduceEqDiff, Nat.reduceAdd, Nat.reduceLeDiff, ↓reduceIte, Bool.true_and, hx, hy, hz, hw, hsw, ASt.set_set]
 exact retC_by ((Drop.set hc).off (by assumption)) (.refl _) ⟨rfl, rfl⟩
theorem OwnSl.len {σ0 σ : ASt} {v : AV} {xs : List AV} {s : Nat} (h : OwnSl σ0 σ v xs s) : lenC v = some (.int .i64 xs.length) := by
 rcases h with ⟨rfl, rfl, rfl⟩ | ⟨b, c, rest, rfl, _⟩ <;> rfl
theorem OwnSl.leaf {σ0 σ : ASt} {v : AV} {xs : List AV} {s : Nat} (h : OwnSl σ0 σ v xs s) : v.leaf = true ∧ v.cells = [v] := by
 rcases h with ⟨rfl, rfl, rfl⟩ | ⟨b, c, rest, rfl, _⟩ <;> exact ⟨rfl, rfl⟩
theorem OwnSl.put {σ0 σ : ASt} {d : Nat} {r : Role} {v : AV} {xs : List AV} {s : Nat} (h : OwnSl σ0 σ v xs s) (hd : σ0 d = some r) (r' : Option Role) : OwnSl (σ0.set d r') (σ.set d r') v xs s := by
 rcases h with ⟨h1, h2, rfl⟩ | ⟨b, c, rest, h1, h2, h3, h4, rfl⟩
 ·exact .inl ⟨h1, h2, rfl⟩
 ·have hbd : b ≠ d := by rintro rfl; rw [hd] at h4; cases h4
  exact .inr ⟨b, c, rest, h1, h2, h3, by rw [ASt.set_ne hbd]; exact h4, set_swap hbd⟩
theorem deeps_map : ∀ l : List Nd, Go.A.deeps (l.map Nd.av) = l.map Nd.av
 | [] => rfl
 | x :: xs => by rw [List.map_cons, deeps_cons, Nd.deep x, deeps_map xs]
theorem leaf1 {v : AV} : leaves [v] = v.leaf := by simp [leaves]
theorem Drop.had {σ σ' : ASt} {b : Nat} {r : Role} (h : Drop σ σ') (hb : σ' b = some r) : σ b = some r := by
 rcases h b with h1 | h1
 ·rw [← h1]; exact hb
 ·rw [h1] at hb; cases hb
theorem Drop.nil {σ σ' : ASt} {b : Nat} (h : Drop σ σ') (hb : σ b = none) : σ' b = none := by
 rcases h b with h1 | h1
 ·rw [h1]; exact hb
 ·exact h1
set_option maxHeartbeats 8000000 in
theorem grow_le (L : List Pt) (hL : L.length ≤ 1000) : ∀ (k i : Nat), L.length + 1 ≤ i + k → i ≤ 2000 → Pure Tryz.prog 24 [.sl .shr (L.map Pt.av), .int .i64 i] (.tuple [(growK L k i).1.av, .int .i64 (growK L k i).2])
 | k, i, hk, hi => by
   intro σ
   by_cases hlt : i < L.length
   ·obtain ⟨k, rfl⟩ : ∃ k', k = k' + 1 := ⟨k - 1, by omega⟩
    have ih : ∀ j, i + 1 ≤ j → j ≤ 2000 → Pure Tryz.prog 24 [.sl .shr (L.map Pt.av), .int .i64 j] (.tuple [(growK L k j).1.av, .int .i64 (growK L k j).2]) := fun j h1 h2 => grow_le L hL k j (by omega) h2
    have hmx := growK_le L 2000 (by omega) k
    have hge := growK_ge L k
    have hlt' : (i : Int) < L.length := by omega
    have hlt2 : ¬ (L.length : Int) ≤ i := by omega
    have hx : L[i]? = some (L[i]'hlt) := List.getElem?_eq_getElem hlt
    obtain ⟨p, hp⟩ : ∃ p, L[i]'hlt = p := ⟨_, rfl⟩
    rw [hp] at hx
    have hmp := Pt.get hx
    rw [growK, hx]
    dsimp only
    have hop := opG_rng p.op
    have hkk := kkG_rng p.n
    have hcn := cntG_le (opG p.op) (kkG p.n) hkk.1
    have m1 := mod2 p.op (m := 23) (by decide)
    have m2 := mod2 p.n (m := 100000) (by decide)
    obtain ⟨KS, hKS⟩ : ∃ KS, (growN (growK L k) (cntG (opG p.op) (kkG p.n)) (i + 1)).1 = KS := ⟨_, rfl⟩
    obtain ⟨J, hJ⟩ : ∃ J, (growN (growK L k) (cntG (opG p.op) (kkG p.n)) (i + 1)).2 = J := ⟨_, rfl⟩
    have hKl : KS.length = cntG (opG p.op) (kkG p.n) := by rw [← hKS, growN_len]
    rw [hKS, hJ]
    have hopu : opG p.op = 1 + (p.op.tmod 23 + 23).tmod 23 := rfl
    have hkku : kkG p.n = (p.n.tmod 100000 + 100000).tmod 100000 := rfl
    obtain ⟨x1, hx1⟩ : ∃ x, p.op.tmod 23 = x := ⟨_, rfl⟩
    obtain ⟨x2, hx2⟩ : ∃ x, (x1 + 23).tmod 23 = x := ⟨_, rfl⟩
    obtain ⟨y1, hy1⟩ : ∃ x, p.n.tmod 100000 = x := ⟨_, rfl⟩
    obtain ⟨y2, hy2⟩ : ∃ x, (y1 + 100000).tmod 100000 = x := ⟨_, rfl⟩
    rw [hx1, hx2] at m1 hopu
    rw [hy1, hy2] at m2 hkku
    obtain ⟨F, hF⟩ : ∃ F, F = ACode.wp Tryz.prog c24_87 := ⟨_, rfl⟩
    obtain ⟨cnt, hcnt⟩ : ∃ cnt, cntG (opG p.op) (kkG p.n) = cnt := ⟨_, rfl⟩
    rw [hcnt] at hcn hKS hJ hKl
    have fin : ∀ (b4 b6 b7 : Nat) (o m : Int) (s : List UInt8) (a b : Ref) (a1 : AFr), σ b4 = none → σ b6 = none → σ b7 = none → b4 ≠ b6 → b4 ≠ b7 → b6 ≠ b7 → (∀ ks, nodeG p ks = .mk o m s a b ks) → (o = 22 ↔ opG p.op = 22) →
      (a1 0 = .sl .shr (L.map Pt.av) ∧ a1 1 = .int .i64 ((i : Int) + 1) ∧ a1 4 = .ptr b4 0 ∧ a1 7 = .ptr b7 0 ∧ a1 8 = .int .i64 cnt ∧ a1 9 = .int .i64 (kkG p.n)) →
      F (RetQ [.c 4 (some 12), .t 5] fun v σ' => Go.A.deep v = .tuple [(nodeG p (missG (opG p.op) (kkG p.n) KS)).av, .int .i64 J] ∧ σ' = σ) a1 (((σ.set b4 (some (.obj zero12))).set b6 (some (.obj p.cs))).set b7 (some (.obj (ndV o m s a b (.sl .full []))))) := by
     intro b4 b6 b7 o m s a b a1 z4 z6 z7 n46 n47 n67 hN ho hf
     rw [hF]
     rw [hN]
     have h7t : ((σ.set b4 (some (.obj zero12))).set b6 (some (.obj p.cs))) b7 = none := by rw [ASt.set_ne (Ne.symm n67), ASt.set_ne (Ne.symm n47)]; exact z7
     have h4t : ((σ.set b4 (some (.obj zero12))).set b6 (some (.obj p.cs))) b4 = some (.obj zero12) := by rw [ASt.set_ne n46, ASt.set_same]
     have hD4 : ∀ X R : Option Role, Drop ((((σ.set b4 (some (.obj zero12))).set b6 (some (.obj p.cs))).set b7 R).set b4 X) σ := fun X R => (((Drop.set z4).off z6).off z7).off z4
     generalize (σ.set b4 (some (.obj zero12))).set b6 (some (.obj p.cs)) = τ at *
     obtain ⟨G, hG⟩ : ∃ G, G = ACode.wp Tryz.prog c24_86 := ⟨_, rfl⟩
     obtain ⟨H, hH⟩ : ∃ H, H = ACode.wp Tryz.prog c24_85 := ⟨_, rfl⟩
     have fin3 : ∀ (a1 : AFr) (σ1 : ASt) (v : AV) (XS : List AV) (ks : List Nd), OwnSl (τ.set b7 (some (.obj (ndV o m s a b v)))) σ1 v XS 12 → (∀ x ∈ XS, x.cells.length = 12) → Go.A.deeps XS = ks.map Nd.av → (a1 1 = .int .i64 J ∧ a1 4 = .ptr b4 0 ∧ a1 7 = .ptr b7 0) →
       H (RetQ [.c 4 (some 12), .t 5] fun v σ' => Go.A.deep v = .tuple [(Nd.mk o m s a b ks).av, .int .i64 J] ∧ σ' = σ) a1 σ1 := by
      intro a1 σ1 v XS ks hO hxl hdp hf
      rw [hH]
      have hb7 := hO.at (x := b7) (ASt.set_same _ _ _)
      have h40 : (τ.set b7 (some (.obj (ndV o m s a b v)))) b4 = some (.obj zero12) := by rw [ASt.set_ne n47]; exact h4t
      have hb4 := hO.at h40
      unfold zero12 at hb4
      have hnl := nv_leaves (o := o) (m := m) (s := s) (a := a) (b := b) hO.leaf.1
      have hO2 := hO.put h40 (some (.obj (ndV o m s a b v)))
      have hDz := hD4 (some (.obj (ndV o m s a b v))) (some (.obj (ndV o m s a b v)))
      have hz := hO2.fz hxl (fun x hx => hDz.nil hx)
      simp (disch := first | assumption | omega) only [go_sem, Nat.reduceEqDiff, Nat.reduceAdd, Nat.reduceLeDiff, ↓reduceIte, hf, hb7, hb4, hnl]
      refine retC_by (r := .tuple [.agg (ndV o m s a b (.sl .shr XS)), .int .i64 J]) (hO2.drop.trans hDz) ?_ ⟨by rw [Nd.av_cs, ← hdp]; rfl, rfl⟩
      exact .tuple (.cons (.agg (.cons (.refl _) (.cons (.refl _) (.cons (.refl _) (.cons (.refl _) (.cons (.refl _) (.cons (.refl _) (.cons (.refl _) (.cons (.refl _) (.cons (.refl _) (.cons (.refl _) (.cons (.refl _) (.cons hz .nil))))))))))))) (.cons (.refl _) .nil))
     have hKxl : ∀ x ∈ KS.map Nd.av, x.cells.length = 12 := by
      intro x hx
      obtain ⟨y, _, rfl⟩ := List.mem_map.1 hx
      exact Nd.av_len y
     have fin2 : ∀ (a1 : AFr) (σ1 : ASt) (v : AV), OwnSl (τ.set b7 (some (.obj (ndV o m s a b v)))) σ1 v (KS.map Nd.av) 12 → (a1 1 = .int .i64 J ∧ a1 4 = .ptr b4 0 ∧ a1 7 = .ptr b7 0 ∧ a1 9 = .int .i64 (kkG p.n)) →
       G (RetQ [.c 4 (some 12), .t 5] fun v σ' => Go.A.deep v = .tuple [(Nd.mk o m s a b (missG (opG p.op) (kkG p.n) KS)).av, .int .i64 J] ∧ σ' = σ) a1 σ1 := by
      intro a1 σ1 v hO hf
      rw [hG]
      have hb7 := hO.at (x := b7) (ASt.set_same _ _ _)
      have hlen := hO.len
      rw [List.length_map] at hlen
      by_cases h22 : o = 22
      ·by_cases h1 : 1 < KS.length
       ·have h1' : (1 : Int) < KS.length := by omega
        by_cases h3 : (kkG p.n).tmod 3 = 0
        ·have hmiss : missG (opG p.op) (kkG p.n) KS = missN :: KS.tail := if_pos ⟨ho.1 h22, h1, h3⟩
         obtain ⟨x, KT, hKT⟩ : ∃ x KT, KS = x :: KT := by
          cases KS with
          | nil => simp at h1
          | cons x KT => exact ⟨x, KT, rfl⟩
         have hmt : missN :: KS.tail = missN :: KT := by rw [hKT]; rfl
         rw [hmiss, hmt]
         rcases hO with ⟨he, _, _⟩ | ⟨bb, c, rest, hv, hc, hr, hbb, hs1⟩
         ·rw [hKT] at he; cases he
         ·rw [List.length_map] at hv
          have hc1 : KS.length ≤ c := by simpa using hc
          subst hv
          have hbb7 : b7 ≠ bb := by rintro rfl; rw [ASt.set_same] at hbb; cases hbb
          have hxl : x.av.cells.length = 12 := Nd.av_len x
          obtain ⟨X, hX⟩ : ∃ X, (KS.map Nd.av).flatMap AV.cells ++ rest = X := ⟨_, rfl⟩
          have hXl : 12 ≤ X.length := by rw [← hX, hKT, List.map_cons, List.flatMap_cons, List.length_append, List.length_append]; omega
          have hXd : X.drop 12 = (KT.map Nd.av).flatMap AV.cells ++ rest := by
           rw [← hX, hKT, List.map_cons, List.flatMap_cons, List.append_assoc, ← hxl, List.drop_left]
          rw [hX] at hs1
          have hbo : σ1 bb = some (.obj X) := by rw [hs1, ASt.set_same]
          have hs2 : ∀ R : Option Role, σ1.set bb R = (τ.set b7 (some (.obj (ndV o m s a b (.msl bb 0 KS.length c))))).set bb R := fun R => by rw [hs1, ASt.set_set]
          have hp0 : (0 : Int) < KS.length := by omega
          simp (disch := first | assumption | omega) only [go_sem, Nat.reduceEqDiff, Nat.reduceAdd, Nat.reduceMul, Nat.reduceLeDiff, ↓reduceIte, Bool.true_and, hf, hb7, h22, h1', h3, hbo, hXl, hXd, hs2, ←hH]
          subst h22
          refine fin3 _ _ (.msl bb 0 KS.length c) (.agg [.int .i64 23, .int .i64 0, .str [], .int .i64 0, .int .i64 0, .bool false, .bool false, .int .i64 0, .int .i64 0, .bool false, .bool false, .sl .full []] :: KT.map Nd.av) (missN :: KT) (.inr ⟨bb, c, rest, ?_, ?_, ?_, hbb, rfl⟩) ?_ ?_ ?_
          ·rw [hKT]; simp
          ·rw [hKT] at hc1; simpa using hc1
          ·rw [hKT] at hr; simpa using hr
          ·intro y hy
           rcases List.mem_cons.1 hy with rfl | hy
           ·rfl
           ·exact hKxl y (by rw [hKT, List.map_cons]; exact List.mem_cons_of_mem _ hy)
          ·rw [List.map_cons, missN, Nd.av_cs, deeps_cons, deeps_map]
           rfl
          ·simp (disch := first | assumption | omega) only [go_sem, Nat.reduceEqDiff, ↓reduceIte, hf]
        ·have hmiss : missG (opG p.op) (kkG p.n) KS = KS := if_neg (fun h => h3 h.2.2)
         rw [hmiss]
         simp (disch := first | assumption | omega) only [go_sem, Nat.reduceEqDiff, ↓reduceIte, hf, hb7, h22, hlen, h1', h3, ←hH]
         subst h22
         refine fin3 _ _ v _ KS hO hKxl (deeps_map KS) ?_
         simp (disch := first | assumption | omega) only [go_sem, Nat.reduceEqDiff, ↓reduceIte, hf]
       ·have h1' : ¬ (1 : Int) < KS.length := by omega
        have hmiss : missG (opG p.op) (kkG p.n) KS = KS := if_neg (fun h => h1 h.2.1)
        rw [hmiss]
        simp (disch := first | assumption | omega) only [go_sem, Nat.reduceEqDiff, ↓reduceIte, hf, hb7, h22, hlen, h1', ←hH]
        subst h22
        refine fin3 _ _ v _ KS hO hKxl (deeps_map KS) ?_
        simp (disch := first | assumption | omega) only [go_sem, Nat.reduceEqDiff, ↓reduceIte, hf]
      ·have hmiss : missG (opG p.op) (kkG p.n) KS = KS := if_neg (fun h => h22 (ho.2 h.1))
       rw [hmiss]
       simp (disch := first | assumption | omega) only [go_sem, Nat.reduceEqDiff, ↓reduceIte, hf, hb7, h22, ←hH]
       refine fin3 _ _ v _ KS hO hKxl (deeps_map KS) ?_
       simp (disch := first | assumption | omega) only [go_sem, Nat.reduceEqDiff, ↓reduceIte, hf]
     simp (disch := first | assumption | omega) only [go_sem, ←hG]
     refine wp_loop_by (fun (q : List Nd × Nat) a1 s2 => (q.1.length ≤ cnt ∧ i + 1 ≤ q.2 ∧ q.2 ≤ 2000 ∧ q.1 ++ (growN (growK L k) (cnt - q.1.length) q.2).1 = KS ∧ (growN (growK L k) (cnt - q.1.length) q.2).2 = J) ∧
       (a1 0 = .sl .shr (L.map Pt.av) ∧ a1 1 = .int .i64 q.2 ∧ a1 4 = .ptr b4 0 ∧ a1 7 = .ptr b7 0 ∧ a1 8 = .int .i64 ((cnt - q.1.length : Nat) : Int) ∧ a1 9 = .int .i64 (kkG p.n)) ∧
       ∃ v, OwnSl (τ.set b7 (some (.obj (ndV o m s a b v)))) s2 v (q.1.map Nd.av) 12) (fun q => cnt - q.1.length) ([], i + 1) (Dr.now ⟨⟨Nat.zero_le _, Nat.le_refl _, by dsimp only; omega, ?_, ?_⟩, ?_, .sl .full [], .inl ⟨rfl, rfl, rfl⟩⟩) ?_
     ·simpa using hKS
     ·simpa using hJ
     ·simp only [List.length_nil, Nat.sub_zero]
      simp (disch := first | assumption | omega) only [go_sem, hf]
     rintro ⟨D, j⟩ a2 s2 ⟨⟨d1, d2, d2', d3, d4⟩, hf, v, hO⟩
     dsimp only at d1 d2 d2' d3 d4 hf hO
     have hb7 := hO.at (x := b7) (ASt.set_same _ _ _)
     by_cases hdl : D.length < cnt
     ·have hdl' : (0 : Int) < ((cnt - D.length : Nat) : Int) := by omega
      have e1 : cnt - D.length = (cnt - (D.length + 1)) + 1 := by omega
      have e2 : ((cnt - D.length : Nat) : Int) - 1 = ((cnt - (D.length + 1) : Nat) : Int) := by omega
      rw [e1, growN] at d3 d4
      dsimp only at d3 d4
      have hcall := ih j d2 d2'
      have hj2 := hmx j d2'
      have hj1 := hge j
      obtain ⟨x, hxx⟩ : ∃ x, (growK L k j).1 = x := ⟨_, rfl⟩
      obtain ⟨j', hjj⟩ : ∃ x, (growK L k j).2 = x := ⟨_, rfl⟩
      rw [hxx, hjj] at d3 hcall
      rw [hjj] at d4 hj2 hj1
      have hDx : ((D ++ [x]).map Nd.av) = D.map Nd.av ++ [x.av] := by simp
      have hDl : (D ++ [x]).length = D.length + 1 := by simp
      have hDm : (D.map Nd.av).length = D.length := by simp
      have d3' : (D ++ [x]) ++ (growN (growK L k) (cnt - (D.length + 1)) j').1 = KS := by rw [← d3]; simp
      obtain ⟨xo, xm, xs, xa, xb, xk⟩ := x
      rw [Nd.av_cs] at hcall hDx
      generalize hXK : xk.map Nd.av = XK at *
      have hlD : ∀ y ∈ D.map Nd.av, y.cells.length = 12 := by
       intro y hy
       obtain ⟨z, _, rfl⟩ := List.mem_map.1 hy
       exact Nd.av_len z
      simp (disch := first | assumption | omega) only [go_sem, reduceCtorEq, Nat.reduceEqDiff, ↓reduceIte, hf, hdl']
      refine hcall.use ?_
      simp (disch := first | assumption | omega) only [go_sem, Nat.reduceEqDiff, ↓reduceIte]
      refine allocC_by fun e he => ?_
      have he7 : b7 ≠ e := by rintro rfl; rw [hb7] at he; cases he
      have he0 : τ e = none := by
       have := hO.fresh he
       rw [ASt.set_ne (Ne.symm he7)] at this
       exact this
      have hOe := hO.add (r := some (.obj (Nd.cs xo xm xs xa xb XK))) he
      have hb7e : (s2.set e (some (.obj (Nd.cs xo xm xs xa xb XK)))) b7 = some (.obj (ndV o m s a b v)) := by rw [ASt.set_ne he7]; exact hb7
      simp (disch := first | assumption | omega) only [go_sem, Nat.reduceEqDiff, Nat.reduceAdd, Nat.reduceLeDiff, ↓reduceIte, Bool.true_and, hf, hb7e, ASt.set_set]
      refine OwnSl.app hOe hlD rfl rfl (by rw [hDm]; simp only [List.length_cons, List.length_nil]; omega) (by rw [hDm]; simp only [List.length_cons, List.length_nil]; omega) (by simp) fun v' σ' ⟨σ2, hd, hO2⟩ => ?_
      have h70 : ((τ.set b7 (some (.obj (ndV o m s a b v)))).set e (some (.obj (Nd.cs xo xm xs xa xb XK)))) b7 = some (.obj (ndV o m s a b v)) := by rw [ASt.set_ne he7, ASt.set_same]
      have hb7' := hd.had (hO2.at h70)
      have hO3 := hO2.put h70 (some (.obj (ndV o m s a b v')))
      rw [set_mid he7] at hO3
      obtain ⟨σ5, hd5, hO5⟩ := hO3.less (by rw [ASt.set_ne (Ne.symm he7)]; exact he0)
      have hvl := hO2.leaf
      have hvc := hvl.2
      have hvv : leaves [v'] = true := by rw [leaf1]; exact hvl.1
      have hD5 : Drop (σ'.set b7 (some (.obj (ndV o m s a b v')))) σ5 := hd.set_cong.trans hd5
      simp (disch := first | assumption | omega) only [go_sem, Nat.reduceEqDiff, Nat.reduceAdd, Nat.reduceLeDiff, ↓reduceIte, hf, hb7', e2, hvc, hvv]
      refine ⟨(D ++ [Nd.mk xo xm xs xa xb xk], j'), by dsimp only; rw [hDl]; omega, Dr.drop hD5 ⟨⟨by dsimp only; omega, by dsimp only; omega, by dsimp only; omega, ?_, ?_⟩, ?_, v', ?_⟩⟩
      ·dsimp only; rw [hDl]; exact d3'
      ·dsimp only; rw [hDl]; exact d4
      ·dsimp only
       rw [hDl]
       simp (disch := first | assumption | omega) only [go_sem, reduceCtorEq, Nat.reduceEqDiff, ↓reduceIte, hf]
      ·dsimp only
       rw [hDx]; exact hO5
     ·have hdl' : ¬ (0 : Int) < ((cnt - D.length : Nat) : Int) := by omega
      have e0 : cnt - D.length = 0 := by omega
      rw [e0, growN] at d3 d4
      dsimp only at d3 d4
      rw [List.append_nil] at d3
      subst d3 d4
      simp (disch := first | assumption | omega) only [go_sem, ↓reduceIte, hf, hdl']
      refine fin2 _ _ v hO ?_
      simp (disch := first | assumption | omega) only [go_sem, Nat.reduceEqDiff, ↓reduceIte, hf]
    refine ACalls.retd (K := fun v σ' => Go.A.deep v = .tuple [(nodeG p (missG (opG p.op) (kkG p.n) KS)).av, .int .i64 J] ∧ σ' = σ) ?_ (fun v σ' h => h)
    refine a24 (by simp) ?_
    simp (disch := first | assumption | omega) only [go_sem]
    refine allocC_by fun b4 hb4 => ?_
    have z4 := hb4
    simp (disch := first | assumption | omega) only [go_sem, reduceCtorEq, Nat.reduceEqDiff, Nat.reduceLeDiff, ↓reduceIte, hlt2, hmp]
    refine allocC_by fun b6 hb6 => ?_
    have z6' := hb6
    repeat (with_reducible replace hb6 := set_none hb6; obtain ⟨_, _, hb6⟩ := hb6)
    have z6 : σ b6 = none := by assumption
    have n46 : b4 ≠ b6 := by assumption
    obtain ⟨B, hB⟩ : ∃ B, B = ACode.wp Tryz.prog c24_88 := ⟨_, rfl⟩
    simp (disch := first | assumption | omega) only [go_sem, Nat.reduceEqDiff, Nat.reduceAdd, Nat.reduceLeDiff, ↓reduceIte, hx1, hx2, ←hopu, ASt.set_set]
    refine allocC_by fun b7 hb7 => ?_
    have z7' := hb7
    repeat (with_reducible replace hb7 := set_none hb7; obtain ⟨_, _, hb7⟩ := hb7)
    have z7 : σ b7 = none := by assumption
    have n47 : b4 ≠ b7 := by assumption
    have n67 : b6 ≠ b7 := by assumption
    simp (disch := first | assumption | omega) only [go_sem, Nat.reduceEqDiff, Nat.reduceAdd, Nat.reduceLeDiff, ↓reduceIte, Bool.true_and, hy1, hy2, ←hkku, ASt.set_set, ←hB]
    obtain ⟨Q, hQ⟩ : ∃ Q, Q = RetQ [.c 4 (some 12), .t 5] fun v σ' => Go.A.deep v = .tuple [(nodeG p (missG (opG p.op) (kkG p.n) KS)).av, .int .i64 J] ∧ σ' = σ := ⟨_, rfl⟩
    rw [← hQ] at fin
    have brs : ∀ (a1 : AFr), (a1 0 = .sl .shr (L.map Pt.av) ∧ a1 1 = .int .i64 ((i : Int) + 1) ∧ a1 4 = .ptr b4 0 ∧ a1 6 = .ptr b6 0 ∧ a1 7 = .ptr b7 0 ∧ a1 8 = .int .i64 0 ∧ a1 9 = .int .i64 (kkG p.n)) →
      B Q a1 (((σ.set b4 (some (.obj zero12))).set b6 (some (.obj p.cs))).set b7 (some (.obj [.int .i64 (opG p.op), .int .i64 0, .str [], .int .i64 0, .int .i64 0, .bool false, .bool false, .int .i64 0, .int .i64 0, .bool false, .bool false, .sl .full []]))) := by
     intro a1 hf
     rw [hB]
     clear hB hQ ih hmx hge hKS hJ z6' z7' hb6 hb7
     have hw7 : 0 ≤ (kkG p.n).tmod 7 ∧ (kkG p.n).tmod 7 < 7 := ⟨Int.tmod_nonneg _ hkk.1, Int.tmod_lt_of_pos _ (by decide)⟩
     obtain ⟨w7, hw7e⟩ : ∃ w, (kkG p.n).tmod 7 = w := ⟨_, rfl⟩
     rw [hw7e] at hw7
     generalize hzz : zero12 = Z12 at *
     by_cases h1 : opG p.op = 1
     ·have hc : (cnt : Int) = 0 := by rw [← hcnt]; unfold cntG; rw [if_neg (by omega), if_neg (by omega), if_neg (by omega)]; rfl
      simp (disch := first | assumption | omega) only [go_sem, Nat.reduceEqDiff, Nat.reduceAdd, Nat.reduceLeDiff, ↓reduceIte, Bool.true_and, hf, h1, ASt.set_set, ←hF]
      refine fin b4 b6 b7 1 (kkG p.n) [] .zero .zero _ z4 z6 z7 n46 n47 n67 (fun ks => by unfold nodeG; rw [if_pos h1]) (by omega) ?_
      simp (disch := first | assumption | omega) only [go_sem, reduceCtorEq, Nat.reduceEqDiff, ↓reduceIte, hf, hc]
     by_cases h3 : opG p.op = 3
     ·have hc : (cnt : Int) = 0 := by rw [← hcnt]; unfold cntG; rw [if_neg (by omega), if_neg (by omega), if_neg (by omega)]; rfl
      simp (disch := first | assumption | omega) only [go_sem, Nat.reduceEqDiff, Nat.reduceAdd, Nat.reduceLeDiff, Int.reduceEq, ↓reduceIte, Bool.true_and, hf, h3, ASt.set_set, ←hF]
      refine fin b4 b6 b7 3 ((kkG p.n).tmod 2) [] .zero .zero _ z4 z6 z7 n46 n47 n67 (fun ks => by unfold nodeG; rw [if_neg (by omega), if_pos h3]) (by omega) ?_
      simp (disch := first | assumption | omega) only [go_sem, reduceCtorEq, Nat.reduceEqDiff, ↓reduceIte, hf, hc]
     by_cases h4 : opG p.op = 4
     ·have hc : (cnt : Int) = 0 := by rw [← hcnt]; unfold cntG; rw [if_neg (by omega), if_neg (by omega), if_neg (by omega)]; rfl
      simp (disch := first | assumption | omega) only [go_sem, Nat.reduceEqDiff, Nat.reduceAdd, Nat.reduceLeDiff, Int.reduceEq, ↓reduceIte, Bool.true_and, hf, h4, hw7e, ASt.set_set, ←hF]
      refine fin b4 b6 b7 4 ((1 + w7) * 10000) [] .zero .zero _ z4 z6 z7 n46 n47 n67 (fun ks => by unfold nodeG; rw [if_neg (by omega), if_neg (by omega), if_pos h4, hw7e]) (by omega) ?_
      simp (disch := first | assumption | omega) only [go_sem, reduceCtorEq, Nat.reduceEqDiff, ↓reduceIte, hf, hc]
     by_cases h2 : opG p.op = 2
     ·have hc : (cnt : Int) = 0 := by rw [← hcnt]; unfold cntG; rw [if_neg (by omega), if_neg (by omega), if_neg (by omega)]; rfl
      have hC := lcut_ok p.s 20
      have hS := rsigns_ok (p.s.take 20) (by rw [List.length_take]; omega)
      rw [show (((20 : Nat)) : Int) = 20 from rfl] at hC
      unfold sgAV at hS
      cases hsg : sgT (p.s.take 20) with
      | some q =>
        rw [hsg] at hS
        dsimp only at hS
        have hN : ∀ ks, nodeG p ks = .mk 2 0 (p.s.take 20) .zero .zero ks := fun ks => by unfold nodeG; rw [if_neg (by omega), if_neg (by omega), if_neg (by omega), if_pos h2, hsg]; rfl
        simp (disch := first | assumption | omega) only [go_sem, Nat.reduceEqDiff, Int.reduceEq, ↓reduceIte, hf, h2, ←hF]
        refine hC.use ?_
        simp (disch := first | assumption | omega) only [go_sem, ↓reduceIte]
        refine hS.use ?_
        simp (disch := first | assumption | omega) only [go_sem, Nat.reduceEqDiff, ↓reduceIte, hf]
        refine hC.use ?_
        simp (disch := first | assumption | omega) only [go_sem, Nat.reduceEqDiff, Nat.reduceAdd, Nat.reduceLeDiff, ↓reduceIte, Bool.true_and, hf, ASt.set_set]
        refine fin b4 b6 b7 2 0 (p.s.take 20) .zero .zero _ z4 z6 z7 n46 n47 n67 hN (by omega) ?_
        simp (disch := first | assumption | omega) only [go_sem, reduceCtorEq, Nat.reduceEqDiff, ↓reduceIte, hf, hc]
      | none =>
        rw [hsg] at hS
        dsimp only at hS
        have hN : ∀ ks, nodeG p ks = .mk 2 0 [] .zero .zero ks := fun ks => by unfold nodeG; rw [if_neg (by omega), if_neg (by omega), if_neg (by omega), if_pos h2, hsg]; rfl
        simp (disch := first | assumption | omega) only [go_sem, Nat.reduceEqDiff, Int.reduceEq, ↓reduceIte, hf, h2, ←hF]
        refine hC.use ?_
        simp (disch := first | assumption | omega) only [go_sem, ↓reduceIte]
        refine hS.use ?_
        simp (disch := first | assumption | omega) only [go_sem, Nat.reduceEqDiff, ↓reduceIte]
        refine fin b4 b6 b7 2 0 [] .zero .zero _ z4 z6 z7 n46 n47 n67 hN (by omega) ?_
        simp (disch := first | assumption | omega) only [go_sem, reduceCtorEq, Nat.reduceEqDiff, ↓reduceIte, hf, hc]
     by_cases h5 : opG p.op = 5
     ·have hc : (cnt : Int) = 0 := by rw [← hcnt]; unfold cntG; rw [if_neg (by omega), if_neg (by omega), if_neg (by omega)]; rfl
      have hpa := place_ok p.a
      unfold refAV at hpa
      simp (disch := first | assumption | omega) only [go_sem, Nat.reduceEqDiff, Nat.reduceAdd, Nat.reduceLeDiff, Int.reduceEq, ↓reduceIte, hf, h5, ←hF]
      refine hpa.use ?_
      simp (disch := first | assumption | omega) only [go_sem, Nat.reduceEqDiff, Nat.reduceAdd, Nat.reduceLeDiff, ↓reduceIte, Bool.true_and, hf, ASt.set_set]
      refine fin b4 b6 b7 5 0 [] (placeR p.a) .zero _ z4 z6 z7 n46 n47 n67 (fun ks => by unfold nodeG; rw [if_neg (by omega), if_neg (by omega), if_neg (by omega), if_neg (by omega), if_pos h5]) (by omega) ?_
      simp (disch := first | assumption | omega) only [go_sem, reduceCtorEq, Nat.reduceEqDiff, ↓reduceIte, hf, hc]
     by_cases h6 : opG p.op = 6
     ·have hc : (cnt : Int) = 0 := by rw [← hcnt]; unfold cntG; rw [if_neg (by omega), if_neg (by omega), if_neg (by omega)]; rfl
      have hpa := place_ok p.a
      have hpb := place_ok p.b
      unfold refAV at hpa hpb
      simp (disch := first | assumption | omega) only [go_sem, Nat.reduceEqDiff, Nat.reduceAdd, Nat.reduceLeDiff, Int.reduceEq, ↓reduceIte, hf, h6, ←hF]
      refine hpa.use ?_
      simp (disch := first | assumption | omega) only [go_sem, Nat.reduceEqDiff, Nat.reduceAdd, Nat.reduceLeDiff, ↓reduceIte, Bool.true_and, hf, ASt.set_set]
      refine hpb.use ?_
      simp (disch := first | assumption | omega) only [go_sem, Nat.reduceEqDiff, Nat.reduceAdd, Nat.reduceLeDiff, ↓reduceIte, Bool.true_and, hf, ASt.set_set]
      refine fin b4 b6 b7 6 0 [] (placeR p.a) (placeR p.b) _ z4 z6 z7 n46 n47 n67 (fun ks => by unfold nodeG; rw [if_neg (by omega), if_neg (by omega), if_neg (by omega), if_neg (by omega), if_neg (by omega), if_pos h6]) (by omega) ?_
      simp (disch := first | assumption | omega) only [go_sem, reduceCtorEq, Nat.reduceEqDiff, ↓reduceIte, hf, hc]
     by_cases h7 : opG p.op = 7
     ·have hc : (cnt : Int) = 1 := by rw [← hcnt]; unfold cntG; rw [if_pos (by omega)]; rfl
      simp (disch := first | assumption | omega) only [go_sem, Nat.reduceEqDiff, Int.reduceEq, ↓reduceIte, hf, h7, ←hF]
      refine fin b4 b6 b7 7 0 [] .zero .zero _ z4 z6 z7 n46 n47 n67 (fun ks => by unfold nodeG; rw [if_neg (by omega), if_neg (by omega), if_neg (by omega), if_neg (by omega), if_neg (by omega), if_neg (by omega), if_neg (by omega), if_neg (by omega), h7]) (by omega) ?_
      simp (disch := first | assumption | omega) only [go_sem, reduceCtorEq, Nat.reduceEqDiff, ↓reduceIte, hf, hc]
     by_cases h8 : opG p.op = 8
     ·have hc : (cnt : Int) = 1 := by rw [← hcnt]; unfold cntG; rw [if_pos (by omega)]; rfl
      simp (disch := first | assumption | omega) only [go_sem, Nat.reduceEqDiff, Int.reduceEq, ↓reduceIte, hf, h8, ←hF]
      refine fin b4 b6 b7 8 0 [] .zero .zero _ z4 z6 z7 n46 n47 n67 (fun ks => by unfold nodeG; rw [if_neg (by omega), if_neg (by omega), if_neg (by omega), if_neg (by omega), if_neg (by omega), if_neg (by omega), if_neg (by omega), if_neg (by omega), h8]) (by omega) ?_
      simp (disch := first | assumption | omega) only [go_sem, reduceCtorEq, Nat.reduceEqDiff, ↓reduceIte, hf, hc]
     by_cases h9 : opG p.op = 9
     ·have hc : (cnt : Int) = 1 := by rw [← hcnt]; unfold cntG; rw [if_pos (by omega)]; rfl
      simp (disch := first | assumption | omega) only [go_sem, Nat.reduceEqDiff, Int.reduceEq, ↓reduceIte, hf, h9, ←hF]
      refine fin b4 b6 b7 9 0 [] .zero .zero _ z4 z6 z7 n46 n47 n67 (fun ks => by unfold nodeG; rw [if_neg (by omega), if_neg (by omega), if_neg (by omega), if_neg (by omega), if_neg (by omega), if_neg (by omega), if_neg (by omega), if_neg (by omega), h9]) (by omega) ?_
      simp (disch := first | assumption | omega) only [go_sem, reduceCtorEq, Nat.reduceEqDiff, ↓reduceIte, hf, hc]
     by_cases h23 : opG p.op = 23
     ·have hc : (cnt : Int) = 0 := by rw [← hcnt]; unfold cntG; rw [if_neg (by omega), if_neg (by omega), if_neg (by omega)]; rfl
      simp (disch := first | assumption | omega) only [go_sem, Nat.reduceEqDiff, Nat.reduceAdd, Nat.reduceLeDiff, Int.reduceEq, ↓reduceIte, Bool.true_and, hf, h23, ASt.set_set, ←hF]
      refine fin b4 b6 b7 3 0 [] .zero .zero _ z4 z6 z7 n46 n47 n67 (fun ks => by unfold nodeG; rw [if_neg (by omega), if_neg (by omega), if_neg (by omega), if_neg (by omega), if_neg (by omega), if_neg (by omega), if_pos h23]) (by omega) ?_
      simp (disch := first | assumption | omega) only [go_sem, reduceCtorEq, Nat.reduceEqDiff, ↓reduceIte, hf, hc]
     by_cases h22 : opG p.op = 22
     ·have hu : 0 ≤ (kkG p.n).tdiv 4 ∧ (kkG p.n).tdiv 4 ≤ 25000 := by rw [Int.tdiv_eq_ediv_of_nonneg hkk.1]; omega
      have hw : 0 ≤ ((kkG p.n).tdiv 4).tmod 4 ∧ ((kkG p.n).tdiv 4).tmod 4 < 4 := ⟨Int.tmod_nonneg _ hu.1, Int.tmod_lt_of_pos _ (by decide)⟩
      have hr : 0 ≤ (kkG p.n).tmod 4 ∧ (kkG p.n).tmod 4 < 4 := ⟨Int.tmod_nonneg _ hkk.1, Int.tmod_lt_of_pos _ (by decide)⟩
      have hc : (cnt : Int) = ((kkG p.n).tdiv 4).tmod 4 := by rw [← hcnt]; unfold cntG; rw [if_neg (by omega), if_pos h22]; omega
      have hN : ∀ ks, nodeG p ks = .mk 22 0 (callL.getD ((kkG p.n).tmod 4).toNat []) .zero .zero ks := fun ks => by unfold nodeG; rw [if_neg (by omega), if_neg (by omega), if_neg (by omega), if_neg (by omega), if_neg (by omega), if_neg (by omega), if_neg (by omega), if_pos h22]
      obtain ⟨u, hue⟩ : ∃ u, (kkG p.n).tdiv 4 = u := ⟨_, rfl⟩
      rw [hue] at hu hw hc
      obtain ⟨w, hwe⟩ : ∃ w, u.tmod 4 = w := ⟨_, rfl⟩
      rw [hwe] at hw hc
      have hr4 : (kkG p.n).tmod 4 = 0 ∨ (kkG p.n).tmod 4 = 1 ∨ (kkG p.n).tmod 4 = 2 ∨ (kkG p.n).tmod 4 = 3 := by omega
      rcases hr4 with hr4 | hr4 | hr4 | hr4
      all_goals
       rw [hr4] at hN
       simp (disch := first | assumption | omega) only [go_sem, Nat.reduceEqDiff, Nat.reduceAdd, Nat.reduceLeDiff, Int.reduceEq, ↓reduceIte, Int.reduceToNat, Bool.true_and, hf, h22, hr4, hue, hwe, ASt.set_set, ←hF]
       refine fin b4 b6 b7 22 0 _ .zero .zero _ z4 z6 z7 n46 n47 n67 hN (by omega) ?_
       simp (disch := first | assumption | omega) only [go_sem, reduceCtorEq, Nat.reduceEqDiff, ↓reduceIte, hf, hc]
     have hc : (cnt : Int) = 2 := by rw [← hcnt]; unfold cntG; rw [if_neg (by omega), if_neg (by omega), if_pos (by omega)]; rfl
     simp (disch := first | assumption | omega) only [go_sem, Nat.reduceEqDiff, ↓reduceIte, hf, h1, h3, h4, h2, h5, h6, h7, h8, h9, h23, h22, ←hF]
     refine fin b4 b6 b7 (opG p.op) 0 [] .zero .zero _ z4 z6 z7 n46 n47 n67 (fun ks => by unfold nodeG; rw [if_neg (by omega), if_neg (by omega), if_neg (by omega), if_neg (by omega), if_neg (by omega), if_neg (by omega), if_neg (by omega), if_neg (by omega)]) (by omega) ?_
     simp (disch := first | assumption | omega) only [go_sem, reduceCtorEq, Nat.reduceEqDiff, ↓reduceIte, hf, hc]
    rw [← hQ]
    unfold zero12 at brs
    refine brs _ ?_
    simp (disch := first | assumption | omega) only [go_sem, reduceCtorEq, Nat.reduceEqDiff, ↓reduceIte]
   ·have hlt' : ¬ (i : Int) < L.length := by omega
    have hge : (L.length : Int) ≤ i := by omega
    have hx : L[i]? = none := List.getElem?_eq_none (by omega)
    have hg : growK L k i = (.mk 1 0 [] .zero .zero [], i) := by
     cases k with
     | zero => rfl
     | succ k => rw [growK, hx]
    rw [hg]
    dsimp only
    rw [Nd.av_cs]
    refine a24 (by simp) ?_
    simp (disch := first | assumption | omega) only [go_sem]
    refine allocC_by fun b4 hb4 => ?_
    simp (disch := first | assumption | omega) only [go_sem, reduceCtorEq, Nat.reduceEqDiff, Nat.reduceAdd, Nat.reduceLeDiff, ↓reduceIte, Bool.true_and, hge, ASt.set_set]
    exact retC_by (Drop.set hb4) (.tuple (.cons (.agg (.cons (.refl _) (.cons (.refl _) (.cons (.refl _) (.cons (.refl _) (.cons (.refl _) (.cons (.refl _) (.cons (.refl _) (.cons (.refl _) (.cons (.refl _) (.cons (.refl _) (.cons (.refl _) (.cons (.sl _ _) .nil))))))))))))) (.cons (.refl _) .nil))) ⟨rfl, rfl⟩
termination_by k => k
end Go.A
namespace Go.A
open Go.Proofs
/-! 5: tabular/tabularlaw12.Told -/
def c5_0 : ACode := .ops [
 ⟨some 1, none, .e (.box (.t 0)), []⟩,
 ⟨some 2, none, .e (.alloc [(.int .i64 0), (.int .i64 0), (.str []), (.int .i64 0), (.int .i64 0), (.bool false), (.bool false), (.int .i64 0), (.int .i64 0), (.bool false), (.bool false), (.sl .full [])]), []⟩]
def c5_1 : ACode := .ops [
 ⟨some 6, none, .q (.fa 0 (.t 1)), []⟩,
 ⟨some 7, none, .q (.ld none (.t 6)), []⟩,
 ⟨some 8, none, .q (.fa 1 (.t 1)), []⟩,
 ⟨some 9, none, .q (.ld none (.t 8)), []⟩,
 ⟨some 10, none, .q (.fa 2 (.t 1)), []⟩,
 ⟨some 11, none, .q (.ld none (.t 10)), []⟩,
 ⟨some 12, none, .q (.fa 3 (.t 1)), []⟩,
 ⟨some 13, none, .q (.ld (some 4) (.t 12)), []⟩,
 ⟨some 14, none, .q (.fa 7 (.t 1)), []⟩,
 ⟨some 15, none, .q (.ld (some 4) (.t 14)), []⟩,
 ⟨some 16, none, .q (.build [(.int .i64 0), (.int .i64 0), (.str []), (.int .i64 0), (.int .i64 0), (.bool false), (.bool false), (.int .i64 0), (.int .i64 0), (.bool false), (.bool false), (.sl .full [])] [(0, 1, (.t 7)), (1, 1, (.t 9)), (2, 1, (.t 11)), (3, 4, (.t 13)), (7, 4, (.t 15))]), []⟩,
 ⟨some 3, none, .e (.alloc [(.int .i64 0), (.int .i64 0), (.str []), (.int .i64 0), (.int .i64 0), (.bool false), (.bool false), (.int .i64 0), (.int .i64 0), (.bool false), (.bool false), (.sl .full [])]), []⟩,
 ⟨none, none, .e (.store 12 (.t 3) (.t 16)), []⟩]
def c5_2 : ACode := .ops [
 ⟨some 17, none, .q (.fa 11 (.t 1)), []⟩,
 ⟨some 18, none, .q (.ld none (.t 17)), []⟩,
 ⟨some 19, none, .q (.len (.t 18)), []⟩,
 ⟨some 20, none, .q (.mv (.v (.int .i64 0))), []⟩]
def c5_3 : ACode := .ops [
 ⟨some 21, none, .q (.bin .lss (.t 20) (.t 19)), []⟩]
def c5_4 : ACode := .cond (.t 21) .skip (.exit 0)
def c5_5 : ACode := .ops [
 ⟨some 22, none, .q (.ia 12 (.t 18) (.t 20)), []⟩,
 ⟨some 23, none, .q (.ld (some 12) (.t 22)), []⟩,
 ⟨some 5, none, .e (.alloc [(.int .i64 0), (.int .i64 0), (.str []), (.int .i64 0), (.int .i64 0), (.bool false), (.bool false), (.int .i64 0), (.int .i64 0), (.bool false), (.bool false), (.sl .full [])]), []⟩,
 ⟨none, none, .e (.store 12 (.t 5) (.t 23)), []⟩]
def c5_6 : ACode := .ops [
 ⟨some 24, none, .q (.fa 11 (.t 3)), []⟩,
 ⟨some 25, none, .q (.ld none (.t 24)), []⟩,
 ⟨some 26, none, .q (.ld (some 12) (.t 5)), []⟩,
 ⟨some 27, none, .e (.call 5 [(.t 26)]), [⟨none, .ld none (.t 24), 25⟩]⟩,
 ⟨some 28, none, .q (.bsl 12 [(.t 27)]), []⟩,
 ⟨some 29, none, .e (.app 33 12 104 [(.int .i64 0), (.int .i64 0), (.str []), (.int .i64 0), (.int .i64 0), (.bool false), (.bool false), (.int .i64 0), (.int .i64 0), (.bool false), (.bool false), (.sl .full [])] (.t 25) (.t 28)), []⟩,
 ⟨some 30, none, .q (.fa 11 (.t 3)), []⟩,
 ⟨none, none, .e (.store 1 (.t 30) (.t 29)), []⟩]
def c5_7 : ACode := .seq c5_5 c5_6
def c5_8 : ACode := .block 1 c5_7
def c5_9 : ACode := .ops [
 ⟨some 31, none, .q (.bin .add (.t 20) (.v (.int .i64 1))), []⟩,
 ⟨some 20, none, .q (.mv (.t 31)), []⟩]
def c5_10 : ACode := .seq c5_8 c5_9
def c5_11 : ACode := .seq c5_4 c5_10
def c5_12 : ACode := .seq c5_3 c5_11
def c5_13 : ACode := .loop c5_12
def c5_14 : ACode := .block 0 c5_13
def c5_15 : ACode := .seq c5_2 c5_14
def c5_16 : ACode := .ops [
 ⟨some 32, none, .q (.ld (some 12) (.t 3)), []⟩,
 ⟨none, none, .e (.store 12 (.t 2) (.t 32)), []⟩]
def c5_17 : ACode := .seq c5_16 .ret
def c5_18 : ACode := .seq c5_15 c5_17
def c5_19 : ACode := .seq c5_1 c5_18
def c5_20 : ACode := .seq c5_0 c5_19
@[go_sem] def c5_0_wp := wp_of c5_0.eq_1
@[go_sem] def c5_1_wp := wp_of c5_1.eq_1
@[go_sem] def c5_2_wp := wp_of c5_2.eq_1
@[go_sem] def c5_3_wp := wp_of c5_3.eq_1
@[go_sem] def c5_4_wp := wp_of c5_4.eq_1
@[go_sem] def c5_5_wp := wp_of c5_5.eq_1
@[go_sem] def c5_6_wp := wp_of c5_6.eq_1
@[go_sem] def c5_7_wp := wp_of c5_7.eq_1
@[go_sem] def c5_8_wp := wp_of c5_8.eq_1
@[go_sem] def c5_9_wp := wp_of c5_9.eq_1
@[go_sem] def c5_10_wp := wp_of c5_10.eq_1
@[go_sem] def c5_11_wp := wp_of c5_11.eq_1
@[go_sem] def c5_12_wp := wp_of c5_12.eq_1
@[go_sem] def c5_13_wp := wp_of c5_13.eq_1
@[go_sem] def c5_14_wp := wp_of c5_14.eq_1
@[go_sem] def c5_15_wp := wp_of c5_15.eq_1
@[go_sem] def c5_16_wp := wp_of c5_16.eq_1
@[go_sem] def c5_17_wp := wp_of c5_17.eq_1
@[go_sem] def c5_18_wp := wp_of c5_18.eq_1
@[go_sem] def c5_19_wp := wp_of c5_19.eq_1
@[go_sem] def c5_20_wp := wp_of c5_20.eq_1
def c5 : AFn := ⟨33, [.c 2 (some 12)], c5_20⟩
theorem c5_ok : compF Tryz.prog Tryz.f5 = some c5 := by kernel_rfl
theorem a5 {args : List AV} {σ : ASt} {R : AV → ASt → Prop} (hl : args.length ≤ 33) (h : c5_20.wp Tryz.prog (RetQ [.c 2 (some 12)] R) (init args) σ) : ACalls Tryz.prog 5 args σ R := acalls_of Tryz.func5 c5_ok hl h
/-! 10: tabular/tabularref12.Same -/
def c10_0 : ACode := .ops [
 ⟨some 2, none, .e (.box (.t 0)), []⟩,
 ⟨some 3, none, .e (.box (.t 1)), []⟩,
 ⟨some 4, none, .q (.mv (.v (.bool false))), []⟩]
def c10_1 : ACode := .ops [
 ⟨some 6, none, .q (.fa 0 (.t 2)), []⟩,
 ⟨some 7, none, .q (.ld none (.t 6)), []⟩,
 ⟨some 8, none, .q (.fa 0 (.t 3)), []⟩,
 ⟨some 9, none, .q (.ld none (.t 8)), []⟩,
 ⟨some 10, none, .q (.bin .neq (.t 7) (.t 9)), []⟩,
 ⟨some 11, none, .q (.mv (.t 10)), []⟩,
 ⟨some 12, some (11, false), .q (.fa 1 (.t 2)), []⟩,
 ⟨some 13, some (11, false), .q (.ld none (.t 12)), []⟩,
 ⟨some 14, some (11, false), .q (.fa 1 (.t 3)), []⟩,
 ⟨some 15, some (11, false), .q (.ld none (.t 14)), []⟩,
 ⟨some 16, some (11, false), .q (.bin .neq (.t 13) (.t 15)), []⟩,
 ⟨some 17, none, .q (.pick (.t 11) (.v (.bool true)) (.t 16)), []⟩,
 ⟨some 18, none, .q (.mv (.t 17)), []⟩,
 ⟨some 19, some (18, false), .q (.fa 2 (.t 2)), []⟩,
 ⟨some 20, some (18, false), .q (.ld none (.t 19)), []⟩,
 ⟨some 21, some (18, false), .q (.fa 2 (.t 3)), []⟩,
 ⟨some 22, some (18, false), .q (.ld none (.t 21)), []⟩,
 ⟨some 23, some (18, false), .q (.bin .neq (.t 20) (.t 22)), []⟩,
 ⟨some 24, none, .q (.pick (.t 18) (.v (.bool true)) (.t 23)), []⟩,
 ⟨some 25, none, .q (.mv (.t 24)), []⟩,
 ⟨some 26, some (25, false), .q (.fa 3 (.t 2)), []⟩,
 ⟨some 27, some (25, false), .q (.ld (some 4) (.t 26)), []⟩,
 ⟨some 28, some (25, false), .q (.fa 3 (.t 3)), []⟩,
 ⟨some 29, some (25, false), .q (.ld (some 4) (.t 28)), []⟩,
 ⟨some 30, some (25, false), .q (.eqs true [(0, 0), (1, 0), (2, 1), (3, 1)] (.t 27) (.t 29)), []⟩,
 ⟨some 31, none, .q (.pick (.t 25) (.v (.bool true)) (.t 30)), []⟩,
 ⟨some 32, none, .q (.mv (.t 31)), []⟩,
 ⟨some 33, some (32, false), .q (.fa 7 (.t 2)), []⟩,
 ⟨some 34, some (32, false), .q (.ld (some 4) (.t 33)), []⟩,
 ⟨some 35, some (32, false), .q (.fa 7 (.t 3)), []⟩,
 ⟨some 36, some (32, false), .q (.ld (some 4) (.t 35)), []⟩,
 ⟨some 37, some (32, false), .q (.eqs true [(0, 0), (1, 0), (2, 1), (3, 1)] (.t 34) (.t 36)), []⟩,
 ⟨some 38, none, .q (.pick (.t 32) (.v (.bool true)) (.t 37)), []⟩,
 ⟨some 39, none, .q (.mv (.t 38)), []⟩,
 ⟨some 40, some (39, false), .q (.fa 11 (.t 2)), []⟩,
 ⟨some 41, some (39, false), .q (.ld none (.t 40)), []⟩,
 ⟨some 42, some (39, false), .q (.len (.t 41)), []⟩,
 ⟨some 43, some (39, false), .q (.fa 11 (.t 3)), []⟩,
 ⟨some 44, some (39, false), .q (.ld none (.t 43)), []⟩,
 ⟨some 45, some (39, false), .q (.len (.t 44)), []⟩,
 ⟨some 46, some (39, false), .q (.bin .neq (.t 42) (.t 45)), []⟩,
 ⟨some 47, none, .q (.pick (.t 39) (.v (.bool true)) (.t 46)), []⟩]
def c10_2 : ACode := .ops [
 ⟨some 4, none, .q (.mv (.v (.bool false))), []⟩]
def c10_3 : ACode := .seq c10_2 .ret
def c10_4 : ACode := .cond (.t 47) c10_3 .skip
def c10_5 : ACode := .seq c10_1 c10_4
def c10_6 : ACode := .ops [
 ⟨some 48, none, .q (.fa 11 (.t 2)), []⟩,
 ⟨some 49, none, .q (.ld none (.t 48)), []⟩,
 ⟨some 50, none, .q (.len (.t 49)), []⟩,
 ⟨some 51, none, .q (.mv (.v (.int .i64 0))), []⟩]
def c10_7 : ACode := .ops [
 ⟨some 52, none, .q (.bin .lss (.t 51) (.t 50)), []⟩]
def c10_8 : ACode := .cond (.t 52) .skip (.exit 0)
def c10_9 : ACode := .ops [
 ⟨some 53, none, .q (.mv (.t 51)), []⟩,
 ⟨some 5, none, .q (.mv (.t 53)), []⟩]
def c10_10 : ACode := .ops [
 ⟨some 54, none, .q (.fa 11 (.t 2)), []⟩,
 ⟨some 55, none, .q (.ld none (.t 54)), []⟩,
 ⟨some 56, none, .q (.mv (.t 5)), []⟩,
 ⟨some 57, none, .q (.ia 12 (.t 55) (.t 56)), []⟩,
 ⟨some 58, none, .q (.ld (some 12) (.t 57)), []⟩,
 ⟨some 59, none, .q (.fa 11 (.t 3)), []⟩,
 ⟨some 60, none, .q (.ld none (.t 59)), []⟩,
 ⟨some 61, none, .q (.mv (.t 5)), []⟩,
 ⟨some 62, none, .q (.ia 12 (.t 60) (.t 61)), []⟩,
 ⟨some 63, none, .q (.ld (some 12) (.t 62)), []⟩,
 ⟨some 64, none, .e (.call 10 [(.t 58), (.t 63)]), []⟩,
 ⟨some 65, none, .q (.un .not (.t 64)), []⟩]
def c10_11 : ACode := .ops [
 ⟨some 4, none, .q (.mv (.v (.bool false))), []⟩]
def c10_12 : ACode := .seq c10_11 .ret
def c10_13 : ACode := .cond (.t 65) c10_12 .skip
def c10_14 : ACode := .seq c10_10 c10_13
def c10_15 : ACode := .seq c10_9 c10_14
def c10_16 : ACode := .block 1 c10_15
def c10_17 : ACode := .ops [
 ⟨some 66, none, .q (.bin .add (.t 51) (.v (.int .i64 1))), []⟩,
 ⟨some 51, none, .q (.mv (.t 66)), []⟩]
def c10_18 : ACode := .seq c10_16 c10_17
def c10_19 : ACode := .seq c10_8 c10_18
def c10_20 : ACode := .seq c10_7 c10_19
def c10_21 : ACode := .loop c10_20
def c10_22 : ACode := .block 0 c10_21
def c10_23 : ACode := .seq c10_6 c10_22
def c10_24 : ACode := .ops [
 ⟨some 4, none, .q (.mv (.v (.bool true))), []⟩]
def c10_25 : ACode := .seq c10_24 .ret
def c10_26 : ACode := .seq c10_23 c10_25
def c10_27 : ACode := .seq c10_5 c10_26
def c10_28 : ACode := .seq c10_0 c10_27
@[go_sem] def c10_0_wp := wp_of c10_0.eq_1
@[go_sem] def c10_1_wp := wp_of c10_1.eq_1
@[go_sem] def c10_2_wp := wp_of c10_2.eq_1
@[go_sem] def c10_3_wp := wp_of c10_3.eq_1
@[go_sem] def c10_4_wp := wp_of c10_4.eq_1
@[go_sem] def c10_5_wp := wp_of c10_5.eq_1
@[go_sem] def c10_6_wp := wp_of c10_6.eq_1
@[go_sem] def c10_7_wp := wp_of c10_7.eq_1
@[go_sem] def c10_8_wp := wp_of c10_8.eq_1
@[go_sem] def c10_9_wp := wp_of c10_9.eq_1
@[go_sem] def c10_10_wp := wp_of c10_10.eq_1
@[go_sem] def c10_11_wp := wp_of c10_11.eq_1
@[go_sem] def c10_12_wp := wp_of c10_12.eq_1
@[go_sem] def c10_13_wp := wp_of c10_13.eq_1
@[go_sem] def c10_14_wp := wp_of c10_14.eq_1
@[go_sem] def c10_15_wp := wp_of c10_15.eq_1
@[go_sem] def c10_16_wp := wp_of c10_16.eq_1
@[go_sem] def c10_17_wp := wp_of c10_17.eq_1
@[go_sem] def c10_18_wp := wp_of c10_18.eq_1
@[go_sem] def c10_19_wp := wp_of c10_19.eq_1
@[go_sem] def c10_20_wp := wp_of c10_20.eq_1
@[go_sem] def c10_21_wp := wp_of c10_21.eq_1
@[go_sem] def c10_22_wp := wp_of c10_22.eq_1
@[go_sem] def c10_23_wp := wp_of c10_23.eq_1
@[go_sem] def c10_24_wp := wp_of c10_24.eq_1
@[go_sem] def c10_25_wp := wp_of c10_25.eq_1
@[go_sem] def c10_26_wp := wp_of c10_26.eq_1
@[go_sem] def c10_27_wp := wp_of c10_27.eq_1
@[go_sem] def c10_28_wp := wp_of c10_28.eq_1
def c10 : AFn := ⟨67, [.t 4], c10_28⟩
theorem c10_ok : compF Tryz.prog Tryz.f10 = some c10 := by kernel_rfl
theorem a10 {args : List AV} {σ : ASt} {R : AV → ASt → Prop} (hl : args.length ≤ 67) (h : c10_28.wp Tryz.prog (RetQ [.t 4] R) (init args) σ) : ACalls Tryz.prog 10 args σ R := acalls_of Tryz.func10 c10_ok hl h
/-! 12: tabular/tabularref12.Size -/
def c12_0 : ACode := .ops [
 ⟨some 1, none, .e (.box (.t 0)), []⟩,
 ⟨some 2, none, .q (.mv (.v (.int .i64 0))), []⟩]
def c12_1 : ACode := .ops [
 ⟨some 3, none, .q (.mv (.v (.int .i64 1))), []⟩]
def c12_2 : ACode := .ops [
 ⟨some 6, none, .q (.fa 11 (.t 1)), []⟩,
 ⟨some 7, none, .q (.ld none (.t 6)), []⟩,
 ⟨some 8, none, .q (.len (.t 7)), []⟩,
 ⟨some 9, none, .q (.mv (.v (.int .i64 0))), []⟩]
def c12_3 : ACode := .ops [
 ⟨some 10, none, .q (.bin .lss (.t 9) (.t 8)), []⟩]
def c12_4 : ACode := .cond (.t 10) .skip (.exit 0)
def c12_5 : ACode := .ops [
 ⟨some 11, none, .q (.ia 12 (.t 7) (.t 9)), []⟩,
 ⟨some 12, none, .q (.ld (some 12) (.t 11)), []⟩,
 ⟨some 5, none, .e (.alloc [(.int .i64 0), (.int .i64 0), (.str []), (.int .i64 0), (.int .i64 0), (.bool false), (.bool false), (.int .i64 0), (.int .i64 0), (.bool false), (.bool false), (.sl .full [])]), []⟩,
 ⟨none, none, .e (.store 12 (.t 5) (.t 12)), []⟩]
def c12_6 : ACode := .ops [
 ⟨some 13, none, .q (.mv (.t 3)), []⟩,
 ⟨some 14, none, .q (.ld (some 12) (.t 5)), []⟩,
 ⟨some 15, none, .e (.call 12 [(.t 14)]), []⟩,
 ⟨some 16, none, .q (.bin .add (.t 13) (.t 15)), []⟩,
 ⟨some 3, none, .q (.mv (.t 16)), []⟩]
def c12_7 : ACode := .seq c12_5 c12_6
def c12_8 : ACode := .block 1 c12_7
def c12_9 : ACode := .ops [
 ⟨some 17, none, .q (.bin .add (.t 9) (.v (.int .i64 1))), []⟩,
 ⟨some 9, none, .q (.mv (.t 17)), []⟩]
def c12_10 : ACode := .seq c12_8 c12_9
def c12_11 : ACode := .seq c12_4 c12_10
def c12_12 : ACode := .seq c12_3 c12_11
def c12_13 : ACode := .loop c12_12
def c12_14 : ACode := .block 0 c12_13
def c12_15 : ACode := .seq c12_2 c12_14
def c12_16 : ACode := .ops [
 ⟨some 18, none, .q (.mv (.t 3)), []⟩,
 ⟨some 2, none, .q (.mv (.t 18)), []⟩]
def c12_17 : ACode := .seq c12_16 .ret
def c12_18 : ACode := .seq c12_15 c12_17
def c12_19 : ACode := .seq c12_1 c12_18
def c12_20 : ACode := .seq c12_0 c12_19
@[go_sem] def c12_0_wp := wp_of c12_0.eq_1
@[go_sem] def c12_1_wp := wp_of c12_1.eq_1
@[go_sem] def c12_2_wp := wp_of c12_2.eq_1
@[go_sem] def c12_3_wp := wp_of c12_3.eq_1
@[go_sem] def c12_4_wp := wp_of c12_4.eq_1
@[go_sem] def c12_5_wp := wp_of c12_5.eq_1
@[go_sem] def c12_6_wp := wp_of c12_6.eq_1
@[go_sem] def c12_7_wp := wp_of c12_7.eq_1
@[go_sem] def c12_8_wp := wp_of c12_8.eq_1
@[go_sem] def c12_9_wp := wp_of c12_9.eq_1
@[go_sem] def c12_10_wp := wp_of c12_10.eq_1
@[go_sem] def c12_11_wp := wp_of c12_11.eq_1
@[go_sem] def c12_12_wp := wp_of c12_12.eq_1
@[go_sem] def c12_13_wp := wp_of c12_13.eq_1
@[go_sem] def c12_14_wp := wp_of c12_14.eq_1
@[go_sem] def c12_15_wp := wp_of c12_15.eq_1
@[go_sem] def c12_16_wp := wp_of c12_16.eq_1
@[go_sem] def c12_17_wp := wp_of c12_17.eq_1
@[go_sem] def c12_18_wp := wp_of c12_18.eq_1
@[go_sem] def c12_19_wp := wp_of c12_19.eq_1
@[go_sem] def c12_20_wp := wp_of c12_20.eq_1
def c12 : AFn := ⟨19, [.t 2], c12_20⟩
theorem c12_ok : compF Tryz.prog Tryz.f12 = some c12 := by kernel_rfl
theorem a12 {args : List AV} {σ : ASt} {R : AV → ASt → Prop} (hl : args.length ≤ 19) (h : c12_20.wp Tryz.prog (RetQ [.t 2] R) (init args) σ) : ACalls Tryz.prog 12 args σ R := acalls_of Tryz.func12 c12_ok hl h
/-! 14: tabular/tabularref12.Depth -/
def c14_0 : ACode := .ops [
 ⟨some 1, none, .e (.box (.t 0)), []⟩,
 ⟨some 2, none, .q (.mv (.v (.int .i64 0))), []⟩]
def c14_1 : ACode := .ops [
 ⟨some 3, none, .q (.mv (.v (.int .i64 0))), []⟩]
def c14_2 : ACode := .ops [
 ⟨some 7, none, .q (.fa 11 (.t 1)), []⟩,
 ⟨some 8, none, .q (.ld none (.t 7)), []⟩,
 ⟨some 9, none, .q (.len (.t 8)), []⟩,
 ⟨some 10, none, .q (.mv (.v (.int .i64 0))), []⟩]
def c14_3 : ACode := .ops [
 ⟨some 11, none, .q (.bin .lss (.t 10) (.t 9)), []⟩]
def c14_4 : ACode := .cond (.t 11) .skip (.exit 0)
def c14_5 : ACode := .ops [
 ⟨some 12, none, .q (.ia 12 (.t 8) (.t 10)), []⟩,
 ⟨some 13, none, .q (.ld (some 12) (.t 12)), []⟩,
 ⟨some 5, none, .e (.alloc [(.int .i64 0), (.int .i64 0), (.str []), (.int .i64 0), (.int .i64 0), (.bool false), (.bool false), (.int .i64 0), (.int .i64 0), (.bool false), (.bool false), (.sl .full [])]), []⟩,
 ⟨none, none, .e (.store 12 (.t 5) (.t 13)), []⟩]
def c14_6 : ACode := .ops [
 ⟨some 14, none, .q (.ld (some 12) (.t 5)), []⟩,
 ⟨some 15, none, .e (.call 14 [(.t 14)]), []⟩,
 ⟨some 6, none, .q (.mv (.t 15)), []⟩]
def c14_7 : ACode := .ops [
 ⟨some 16, none, .q (.mv (.t 6)), []⟩,
 ⟨some 17, none, .q (.mv (.t 3)), []⟩,
 ⟨some 18, none, .q (.bin .gtr (.t 16) (.t 17)), []⟩]
def c14_8 : ACode := .ops [
 ⟨some 19, none, .q (.mv (.t 6)), []⟩,
 ⟨some 3, none, .q (.mv (.t 19)), []⟩]
def c14_9 : ACode := .cond (.t 18) c14_8 .skip
def c14_10 : ACode := .seq c14_7 c14_9
def c14_11 : ACode := .seq c14_6 c14_10
def c14_12 : ACode := .seq c14_5 c14_11
def c14_13 : ACode := .block 1 c14_12
def c14_14 : ACode := .ops [
 ⟨some 20, none, .q (.bin .add (.t 10) (.v (.int .i64 1))), []⟩,
 ⟨some 10, none, .q (.mv (.t 20)), []⟩]
def c14_15 : ACode := .seq c14_13 c14_14
def c14_16 : ACode := .seq c14_4 c14_15
def c14_17 : ACode := .seq c14_3 c14_16
def c14_18 : ACode := .loop c14_17
def c14_19 : ACode := .block 0 c14_18
def c14_20 : ACode := .seq c14_2 c14_19
def c14_21 : ACode := .ops [
 ⟨some 21, none, .q (.mv (.t 3)), []⟩,
 ⟨some 22, none, .q (.bin .add (.t 21) (.v (.int .i64 1))), []⟩,
 ⟨some 2, none, .q (.mv (.t 22)), []⟩]
def c14_22 : ACode := .seq c14_21 .ret
def c14_23 : ACode := .seq c14_20 c14_22
def c14_24 : ACode := .seq c14_1 c14_23
def c14_25 : ACode := .seq c14_0 c14_24
@[go_sem] def c14_0_wp := wp_of c14_0.eq_1
@[go_sem] def c14_1_wp := wp_of c14_1.eq_1
@[go_sem] def c14_2_wp := wp_of c14_2.eq_1
@[go_sem] def c14_3_wp := wp_of c14_3.eq_1
@[go_sem] def c14_4_wp := wp_of c14_4.eq_1
@[go_sem] def c14_5_wp := wp_of c14_5.eq_1
@[go_sem] def c14_6_wp := wp_of c14_6.eq_1
@[go_sem] def c14_7_wp := wp_of c14_7.eq_1
@[go_sem] def c14_8_wp := wp_of c14_8.eq_1
@[go_sem] def c14_9_wp := wp_of c14_9.eq_1
@[go_sem] def c14_10_wp := wp_of c14_10.eq_1
@[go_sem] def c14_11_wp := wp_of c14_11.eq_1
@[go_sem] def c14_12_wp := wp_of c14_12.eq_1
@[go_sem] def c14_13_wp := wp_of c14_13.eq_1
@[go_sem] def c14_14_wp := wp_of c14_14.eq_1
@[go_sem] def c14_15_wp := wp_of c14_15.eq_1
@[go_sem] def c14_16_wp := wp_of c14_16.eq_1
@[go_sem] def c14_17_wp := wp_of c14_17.eq_1
@[go_sem] def c14_18_wp := wp_of c14_18.eq_1
@[go_sem] def c14_19_wp := wp_of c14_19.eq_1
@[go_sem] def c14_20_wp := wp_of c14_20.eq_1
@[go_sem] def c14_21_wp := wp_of c14_21.eq_1
@[go_sem] def c14_22_wp := wp_of c14_22.eq_1
@[go_sem] def c14_23_wp := wp_of c14_23.eq_1
@[go_sem] def c14_24_wp := wp_of c14_24.eq_1
@[go_sem] def c14_25_wp := wp_of c14_25.eq_1
def c14 : AFn := ⟨23, [.t 2], c14_25⟩
theorem c14_ok : compF Tryz.prog Tryz.f14 = some c14 := by kernel_rfl
theorem a14 {args : List AV} {σ : ASt} {R : AV → ASt → Prop} (hl : args.length ≤ 23) (h : c14_25.wp Tryz.prog (RetQ [.t 2] R) (init args) σ) : ACalls Tryz.prog 14 args σ R := acalls_of Tryz.func14 c14_ok hl h
end Go.A
namespace Go.A
open Go.Proofs Go.Lib
theorem rsize_le : ∀ (k : Nat) (n : Nd), n.size ≤ k → n.size ≤ 1000000000 → Pure Tryz.prog 12 [n.av] (.int .i64 n.size)
 | 0, n, hk, _ => by have := n.size_pos; omega
 | k + 1, n, hk, hbig => by
   intro σ
   have ih := rsize_le k
   obtain ⟨op, m, s, a, b, kids⟩ := n
   rw [Nd.size] at hk hbig ⊢
   rw [Nd.av_cs]
   have hlen := sizes_len kids
   refine a12 (by simp) ?_
   simp (disch := first | assumption | omega) only [go_sem]
   refine boxC_by rfl fun c hc => ?_
   simp (disch := first | assumption | omega) only [go_sem, Nat.reduceEqDiff, ↓reduceIte]
   refine wp_loop_by (fun (i : Nat) a1 s2 => i ≤ kids.length ∧ (a1 3 = .int .i64 (1 + (Nd.sizes (kids.take i) : Nat)) ∧ a1 7 = .sl .shr (kids.map Nd.av) ∧ a1 8 = .int .i64 kids.length ∧ a1 9 = .int .i64 i) ∧ s2 = σ) (fun i => kids.length - i) 0 (Dr.drop (Drop.set hc) ⟨Nat.zero_le _, ?_, rfl⟩) ?_
   ·simp only [List.take_zero, Nd.sizes]
    simp (disch := first | assumption | omega) only [go_sem, Nat.reduceEqDiff, ↓reduceIte, Int.reduceAdd]
   rintro i a1 s2 ⟨hi, hf, rfl⟩
   have hle := sizes_le kids i
   by_cases hlt : i < kids.length
   ·have hlt' : (i : Int) < kids.length := by omega
    have hx : kids[i]? = some (kids[i]'hlt) := List.getElem?_eq_getElem hlt
    obtain ⟨x, hxe⟩ : ∃ x, kids[i]'hlt = x := ⟨_, rfl⟩
    rw [hxe] at hx
    have hmx := Nd.get hx
    have hst := sizes_take hx
    have hle2 := sizes_le kids (i + 1)
    have hxs := ih x (by omega) (by omega)
    obtain ⟨xo, xm, xs, xa, xb, xk⟩ := x
    rw [Nd.av_cs] at hmx hxs
    generalize (Nd.mk xo xm xs xa xb xk).size = z at *
    have e : (1 + ((Nd.sizes (kids.take i) : Nat) : Int)) + (z : Int) = 1 + ((Nd.sizes (kids.take (i + 1)) : Nat) : Int) := by omega
    generalize Nd.sizes (kids.take i) = u at *
    obtain ⟨v, hv⟩ : ∃ v, Nd.sizes (kids.take (i + 1)) = v := ⟨_, rfl⟩
    rw [hv] at e
    generalize kids.map Nd.av = L at *
    simp (disch := first | assumption | omega) only [go_sem, Nat.reduceEqDiff, Nat.reduceLeDiff, ↓reduceIte, hf, hlt', hmx]
    refine allocC_by fun d hd => ?_
    simp (disch := first | assumption | omega) only [go_sem, Nat.reduceEqDiff, Nat.reduceAdd, Nat.reduceLeDiff, ↓reduceIte, hf, ASt.set_set]
    refine hxs.use ?_
    simp (disch := first | assumption | omega) only [go_sem, Nat.reduceEqDiff, ↓reduceIte, hf, e]
    refine ⟨i + 1, by dsimp only; omega, Dr.drop (Drop.set hd) ⟨by omega, ?_, rfl⟩⟩
    rw [hv]
    simp (disch := first | assumption | omega) only [go_sem, Nat.reduceEqDiff, ↓reduceIte, hf]
   ·have hlt' : ¬ (i : Int) < kids.length := by omega
    rw [List.take_of_length_le (by omega)] at hf
    generalize Nd.sizes kids = u at *
    simp (disch := first | assumption | omega) only [go_sem, Nat.reduceEqDiff, ↓reduceIte, hf, hlt']
    exact retC_by (.refl _) (.refl _) ⟨rfl, rfl⟩
theorem rsize12_ok (n : Nd) (h : n.size ≤ 1000000000) : Pure Tryz.prog 12 [n.av] (.int .i64 n.size) := rsize_le n.size n (Nat.le_refl _) h
theorem told_le : ∀ (k : Nat) (n : Nd), n.size ≤ k → n.size ≤ 1000000000 → Pure Tryz.prog 5 [n.av] n.av
 | 0, n, hk, _ => by have := n.size_pos; omega
 | k + 1, n, hk, hbig => by
   intro σ
   have ih := told_le k
   obtain ⟨o, m, s, a, b, ks⟩ := n
   rw [Nd.size] at hk hbig
   have hlen := sizes_len ks
   have hkid : ∀ x ∈ ks, Pure Tryz.prog 5 [x.av] x.av := fun x hx => by
    have := Nd.size_kid hx
    exact ih x (by omega) (by omega)
   clear ih
   rw [Nd.av_cs]
   refine a5 (by simp) ?_
   simp (disch := first | assumption | omega) only [go_sem]
   refine boxC_by rfl fun c1 h1 => ?_
   simp (disch := first | assumption | omega) only [go_sem]
   refine allocC_by fun c2 h2 => ?_
   have h2' := h2
   repeat (with_reducible replace h2 := set_none h2; obtain ⟨_, _, h2⟩ := h2)
   simp (disch := first | assumption | omega) only [go_sem, Nat.reduceEqDiff, Nat.reduceAdd, Nat.reduceLeDiff, ↓reduceIte]
   refine allocC_by fun c3 h3 => ?_
   have h3' := h3
   repeat (with_reducible replace h3 := set_none h3; obtain ⟨_, _, h3⟩ := h3)
   obtain ⟨τ, hτ⟩ : ∃ τ, (σ.set c1 (some (.obj (Nd.cs o m s a b (ks.map Nd.av))))).set c2 (some (.obj zero12)) = τ := ⟨_, rfl⟩
   have hτ3 : τ c3 = none := by rw [← hτ]; exact h3'
   have hτ2 : τ c2 = some (.obj zero12) := by rw [← hτ, ASt.set_same]
   have hDτ : ∀ X R : Option Role, Drop (((τ.set c3 R).set c2 X)) σ := fun X R => by
    rw [← hτ]
    exact ((((Drop.set h1).off h2).off (by assumption)).off h2)
   have hz12 : zero12 = [.int .i64 0, .int .i64 0, .str [], .int .i64 0, .int .i64 0, .bool false, .bool false, .int .i64 0, .int .i64 0, .bool false, .bool false, .sl .full []] := rfl
   rw [hz12] at hτ
   have n23 : c2 ≠ c3 := by rintro rfl; rw [hτ2] at hτ3; cases hτ3
   simp (disch := first | assumption | omega) only [go_sem, Nat.reduceEqDiff, Nat.reduceAdd, Nat.reduceLeDiff, ↓reduceIte, Bool.true_and, ASt.set_set]
   rw [hτ]
   obtain ⟨G, hG⟩ : ∃ G, G = ACode.wp Tryz.prog c5_17 := ⟨_, rfl⟩
   simp (disch := first | assumption | omega) only [go_sem, ←hG]
   refine wp_loop_by (fun (i : Nat) a1 s2 => i ≤ ks.length ∧ (a1 2 = .ptr c2 0 ∧ a1 3 = .ptr c3 0 ∧ a1 18 = .sl .shr (ks.map Nd.av) ∧ a1 19 = .int .i64 ks.length ∧ a1 20 = .int .i64 i) ∧
    ∃ v, OwnSl (τ.set c3 (some (.obj (ndV o m s a b v)))) s2 v ((ks.take i).map Nd.av) 12) (fun i => ks.length - i) 0 (Dr.now ⟨Nat.zero_le _, ?_, .sl .full [], .inl ⟨rfl, rfl, rfl⟩⟩) ?_
   ·simp (disch := first | assumption | omega) only [go_sem, Nat.reduceEqDiff, ↓reduceIte]
   rintro i a1 s2 ⟨hi, hf, v, hO⟩
   have hb7 := hO.at (x := c3) (ASt.set_same _ _ _)
   by_cases hlt : i < ks.length
   ·have hlt' : (i : Int) < ks.length := by omega
    have hx : ks[i]? = some (ks[i]'hlt) := List.getElem?_eq_getElem hlt
    obtain ⟨x, hxe⟩ : ∃ x, ks[i]'hlt = x := ⟨_, rfl⟩
    have hcall := hkid x (by rw [← hxe]; exact List.getElem_mem _)
    have htake : (ks.take (i + 1)).map Nd.av = (ks.take i).map Nd.av ++ [x.av] := by rw [List.take_succ_eq_append_getElem hlt, hxe]; simp
    rw [hxe] at hx
    have hmx := Nd.get hx
    have hDm : ((ks.take i).map Nd.av).length = i := by simp; omega
    have hlD : ∀ y ∈ (ks.take i).map Nd.av, y.cells.length = 12 := by
     intro y hy
     obtain ⟨z, _, rfl⟩ := List.mem_map.1 hy
     exact Nd.av_len z
    obtain ⟨xo, xm, xs, xa, xb, xk⟩ := x
    rw [Nd.av_cs] at hcall htake hmx
    generalize hXK : xk.map Nd.av = XK at *
    generalize (ks.take i).map Nd.av = DL at *
    generalize ks.map Nd.av = L at *
    simp (disch := first | assumption | omega) only [go_sem, Nat.reduceEqDiff, Nat.reduceLeDiff, ↓reduceIte, hf, hlt', hmx]
    refine allocC_by fun e he => ?_
    have he7 : c3 ≠ e := by rintro rfl; rw [hb7] at he; cases he
    have he0 : τ e = none := by
     have := hO.fresh he
     rw [ASt.set_ne (Ne.symm he7)] at this
     exact this
    have hOe := hO.add (r := some (.obj (Nd.cs xo xm xs xa xb XK))) he
    have hb7e : (s2.set e (some (.obj (Nd.cs xo xm xs xa xb XK)))) c3 = some (.obj (ndV o m s a b v)) := by rw [ASt.set_ne he7]; exact hb7
    simp (disch := first | assumption | omega) only [go_sem, Nat.reduceEqDiff, Nat.reduceAdd, Nat.reduceLeDiff, ↓reduceIte, hf, hb7e, ASt.set_set]
    refine hcall.use ?_
    simp (disch := first | assumption | omega) only [go_sem, Nat.reduceEqDiff, ↓reduceIte, Bool.true_and, hb7e]
    refine OwnSl.app hOe hlD rfl rfl (by rw [hDm]; simp only [List.length_cons, List.length_nil]; omega) (by rw [hDm]; simp only [List.length_cons, List.length_nil]; omega) (by simp) fun v' σ' ⟨σ2, hd, hO2⟩ => ?_
    have h70 : ((τ.set c3 (some (.obj (ndV o m s a b v)))).set e (some (.obj (Nd.cs xo xm xs xa xb XK)))) c3 = some (.obj (ndV o m s a b v)) := by rw [ASt.set_ne he7, ASt.set_same]
    have hb7' := hd.had (hO2.at h70)
    have hO3 := hO2.put h70 (some (.obj (ndV o m s a b v')))
    rw [set_mid he7] at hO3
    obtain ⟨σ5, hd5, hO5⟩ := hO3.less (by rw [ASt.set_ne (Ne.symm he7)]; exact he0)
    have hvl := hO2.leaf
    have hvc := hvl.2
    have hvv : leaves [v'] = true := by rw [leaf1]; exact hvl.1
    have hD5 : Drop (σ'.set c3 (some (.obj (ndV o m s a b v')))) σ5 := hd.set_cong.trans hd5
    simp (disch := first | assumption | omega) only [go_sem, Nat.reduceEqDiff, Nat.reduceAdd, Nat.reduceLeDiff, ↓reduceIte, hf, hb7', hvc, hvv]
    refine ⟨i + 1, by dsimp only; omega, Dr.drop hD5 ⟨by omega, ?_, v', ?_⟩⟩
    ·simp (disch := first | assumption | omega) only [go_sem, Nat.reduceEqDiff, ↓reduceIte, hf]
    ·rw [htake]; exact hO5
   ·have hlt' : ¬ (i : Int) < ks.length := by omega
    rw [List.take_of_length_le (by omega)] at hO
    have hb2 := hO.at (x := c2) (r := .obj zero12) (by rw [ASt.set_ne n23]; exact hτ2)
    have hxl : ∀ x ∈ ks.map Nd.av, x.cells.length = 12 := by
     intro y hy
     obtain ⟨z, _, rfl⟩ := List.mem_map.1 hy
     exact Nd.av_len z
    have hnl := nv_leaves (o := o) (m := m) (s := s) (a := a) (b := b) hO.leaf.1
    have hO2 := hO.put (by rw [ASt.set_ne n23]; exact hτ2) (some (.obj (ndV o m s a b v)))
    have hDz := hDτ (some (.obj (ndV o m s a b v))) (some (.obj (ndV o m s a b v)))
    have hz := hO2.fz hxl (fun x hx => hDz.nil hx)
    unfold zero12 at hb2
    generalize ks.map Nd.av = L at *
    simp (disch := first | assumption | omega) only [go_sem, ↓reduceIte, hf, hlt']
    rw [hG]
    simp (disch := first | assumption | omega) only [go_sem, Nat.reduceEqDiff, Nat.reduceAdd, Nat.reduceLeDiff, ↓reduceIte, hf, hb7, hb2, hnl]
    refine retC_by (r := .agg (ndV o m s a b (.sl .shr L))) (hO2.drop.trans hDz) ?_ ⟨rfl, rfl⟩
    exact .agg (.cons (.refl _) (.cons (.refl _) (.cons (.refl _) (.cons (.refl _) (.cons (.refl _) (.cons (.refl _) (.cons (.refl _) (.cons (.refl _) (.cons (.refl _) (.cons (.refl _) (.cons (.refl _) (.cons hz .nil))))))))))))
theorem rdepth_le : ∀ (k : Nat) (n : Nd), n.size ≤ k → n.size ≤ 1000000000 → Pure Tryz.prog 14 [n.av] (.int .i64 n.depth)
 | 0, n, hk, _ => by have := n.size_pos; omega
 | k + 1, n, hk, hbig => by
   intro σ
   have ih := rdepth_le k
   have hdd := n.depth_le_size
   obtain ⟨op, m, s, a, b, kids⟩ := n
   rw [Nd.size] at hk hbig hdd
   rw [Nd.depth] at hdd ⊢
   rw [Nd.av_cs]
   have hlen := sizes_len kids
   have hdl := depths_le kids
   refine a14 (by simp) ?_
   simp (disch := first | assumption | omega) only [go_sem]
   refine boxC_by rfl fun c hc => ?_
   simp (disch := first | assumption | omega) only [go_sem, Nat.reduceEqDiff, ↓reduceIte]
   refine wp_loop_by (fun (i : Nat) a1 s2 => i ≤ kids.length ∧ (a1 3 = .int .i64 (Nd.depths (kids.take i) : Nat) ∧ a1 8 = .sl .shr (kids.map Nd.av) ∧ a1 9 = .int .i64 kids.length ∧ a1 10 = .int .i64 i) ∧ s2 = σ) (fun i => kids.length - i) 0 (Dr.drop (Drop.set hc) ⟨Nat.zero_le _, ?_, rfl⟩) ?_
   ·simp only [List.take_zero, Nd.depths]
    simp (disch := first | assumption | omega) only [go_sem, Nat.reduceEqDiff, ↓reduceIte]
   rintro i a1 s2 ⟨hi, hf, rfl⟩
   have hle := depths_take_le kids i
   by_cases hlt : i < kids.length
   ·have hlt' : (i : Int) < kids.length := by omega
    have hx : kids[i]? = some (kids[i]'hlt) := List.getElem?_eq_getElem hlt
    obtain ⟨x, hxe⟩ : ∃ x, kids[i]'hlt = x := ⟨_, rfl⟩
    rw [hxe] at hx
    have hmx := Nd.get hx
    have hst := depths_take hx
    have hsz := Nd.size_kid (List.mem_of_getElem? hx)
    have hxs := ih x (by omega) (by omega)
    obtain ⟨xo, xm, xs, xa, xb, xk⟩ := x
    rw [Nd.av_cs] at hmx hxs
    generalize (Nd.mk xo xm xs xa xb xk).depth = z at *
    generalize Nd.depths (kids.take i) = u at *
    obtain ⟨v, hv⟩ : ∃ v, Nd.depths (kids.take (i + 1)) = v := ⟨_, rfl⟩
    rw [hv] at hst
    generalize kids.map Nd.av = L at *
    simp (disch := first | assumption | omega) only [go_sem, Nat.reduceEqDiff, Nat.reduceLeDiff, ↓reduceIte, hf, hlt', hmx]
    refine allocC_by fun d hd => ?_
    simp (disch := first | assumption | omega) only [go_sem, Nat.reduceEqDiff, Nat.reduceAdd, Nat.reduceLeDiff, ↓reduceIte, ASt.set_set]
    refine hxs.use ?_
    by_cases hg : (u : Int) < z
    ·obtain rfl : v = z := by omega
     simp (disch := first | assumption | omega) only [go_sem, Nat.reduceEqDiff, ↓reduceIte, hf, hg]
     refine ⟨i + 1, by dsimp only; omega, Dr.drop (Drop.set hd) ⟨by omega, ?_, rfl⟩⟩
     rw [hv]
     simp (disch := first | assumption | omega) only [go_sem, Nat.reduceEqDiff, ↓reduceIte, hf]
    ·obtain rfl : v = u := by omega
     simp (disch := first | assumption | omega) only [go_sem, Nat.reduceEqDiff, ↓reduceIte, hf, hg]
     refine ⟨i + 1, by dsimp only; omega, Dr.drop (Drop.set hd) ⟨by omega, ?_, rfl⟩⟩
     rw [hv]
     simp (disch := first | assumption | omega) only [go_sem, Nat.reduceEqDiff, ↓reduceIte, hf]
   ·have hlt' : ¬ (i : Int) < kids.length := by omega
    rw [List.take_of_length_le (by omega)] at hf
    generalize Nd.depths kids = u at *
    simp (disch := first | assumption | omega) only [go_sem, Nat.reduceEqDiff, ↓reduceIte, hf, hlt']
    exact retC_by (by repeat' (first | exact Drop.refl _ | with_reducible refine Drop.off ?_ (by assumption))) (.refl _) ⟨rfl, rfl⟩
theorem rdepth_ok (n : Nd) (h : n.size ≤ 1000000000) : Pure Tryz.prog 14 [n.av] (.int .i64 n.depth) := rdepth_le n.size n (Nat.le_refl _) h
theorem rsame_le : ∀ (k : Nat) (x y : Nd), x.size ≤ k → x.size ≤ 1000000000 → y.size ≤ 1000000000 → Pure Tryz.prog 10 [x.av, y.av] (.bool (Nd.same x y))
 | 0, x, y, hk, _, _ => by have := x.size_pos; omega
 | k + 1, x, y, hk, hx, hy => by
   intro σ
   obtain ⟨o, n, s, a, b, ks⟩ := x
   obtain ⟨o', n', s', a', b', ks'⟩ := y
   rw [Nd.size] at hk hx hy
   have l1 := sizes_len ks
   have l2 := sizes_len ks'
   have hE : ∀ u ∈ ks, ∀ v ∈ ks', Pure Tryz.prog 10 [u.av, v.av] (.bool (Nd.same u v)) := fun u hu v hv => by
    have h1 := Nd.size_kid hu
    have h2 := Nd.size_kid hv
    exact rsame_le k u v (by omega) (by omega) (by omega)
   rw [Nd.av_cs, Nd.av_cs, Nd.same]
   refine a10 (by simp) ?_
   simp (disch := first | assumption | omega) only [go_sem]
   refine boxC_by rfl fun c hc => ?_
   simp (disch := first | assumption | omega) only [go_sem, Nat.reduceEqDiff, ↓reduceIte]
   refine boxC_by rfl fun d hd => ?_
   have hd0 := hd
   repeat (with_reducible replace hd := set_none hd; obtain ⟨_, _, hd⟩ := hd)
   have hD : ∀ r r' : Option Role, Drop ((σ.set c r).set d r') σ := fun r r' => (Drop.set hc).off (by assumption)
   by_cases h1 : o = o'
   ·by_cases h2 : n = n'
    ·by_cases h3 : s = s'
     ·by_cases h4 : a = a'
      ·by_cases h5 : b = b'
       ·subst h1 h2 h3 h4 h5
        by_cases hl : ks.length = ks'.length
        ·have hl' : (ks.length : Int) = ks'.length := by omega
         have hlm : (ks.map Nd.av).length = ks.length := List.length_map _
         have hlm' : (ks'.map Nd.av).length = ks'.length := List.length_map _
         simp (disch := first | assumption | omega) only [go_sem, Nat.reduceEqDiff, Nat.reduceAdd, Nat.reduceLeDiff, ↓reduceIte, Bool.true_and, eq_self, hl']
         refine wp_loop_by (fun (i : Nat) a1 s2 => i ≤ ks.length ∧ (a1 2 = .ptr c 0 ∧ a1 3 = .ptr d 0 ∧ a1 50 = .int .i64 ks.length ∧ a1 51 = .int .i64 i) ∧ s2 = ((σ.set c (some (.obj (Nd.cs o n s a b (ks.map Nd.av))))).set d (some (.obj (Nd.cs o n s a b (ks'.map Nd.av))))) ∧ ∀ j u v, j < i → ks[j]? = some u → ks'[j]? = some v → Nd.same u v = true) (fun i => ks.length - i) 0 (Dr.now ⟨Nat.zero_le _, ?_, rfl, fun j u v hj => by omega⟩) ?_
         ·simp (disch := first | assumption | omega) only [go_sem, Nat.reduceEqDiff, ↓reduceIte, hl']
         rintro i a1 s2 ⟨hi, hf, rfl, hall⟩
         by_cases hlt : i < ks.length
         ·have hlt' : (i : Int) < ks.length := by omega
          have hlt2 : (i : Int) < ks'.length := by omega
          have hx1 : ks[i]? = some (ks[i]'hlt) := List.getElem?_eq_getElem hlt
          have hy1 : ks'[i]? = some (ks'[i]'(by omega)) := List.getElem?_eq_getElem _
          have hcall := hE _ (List.getElem_mem hlt) _ (List.getElem_mem (l := ks') (n := i) (by omega))
          obtain ⟨u, hu⟩ : ∃ u, ks[i]'hlt = u := ⟨_, rfl⟩
          obtain ⟨v, hv⟩ : ∃ v, ks'[i]'(by omega) = v := ⟨_, rfl⟩
          rw [hu] at hx1 hcall
          rw [hv] at hy1 hcall
          have hmx := Nd.get hx1
          have hmy := Nd.get hy1
          obtain ⟨r, hr⟩ : ∃ r, Nd.same u v = r := ⟨_, rfl⟩
          rw [hr] at hcall
          have hfalse : r = false → Nd.sames ks ks' = false := fun hrf => by
           cases h : Nd.sames ks ks' with
           | false => rfl
           | true => rw [Nd.sames_get hx1 hy1 h] at hr; rw [hrf] at hr; cases hr
          have htrue : r = true → ∀ j u' v', j < i + 1 → ks[j]? = some u' → ks'[j]? = some v' → Nd.same u' v' = true := fun hrt j u' v' hj hju hjv => by
           rcases Nat.lt_or_ge j i with h | h
           ·exact hall j u' v' h hju hjv
           ·obtain rfl : j = i := by omega
            rw [hx1] at hju
            rw [hy1] at hjv
            injection hju with hju
            injection hjv with hjv
            subst hju hjv
            rw [hr, hrt]
          obtain ⟨uo, um, us, ua, ub, uk⟩ := u
          obtain ⟨vo, vm, vs, va, vb, vk⟩ := v
          rw [Nd.av_cs] at hmx hmy
          rw [Nd.av_cs, Nd.av_cs] at hcall
          simp (disch := first | assumption | omega) only [go_sem, Nat.reduceEqDiff, Nat.reduceLeDiff, ↓reduceIte, hf, hlt', hmx, hmy]
          refine hcall.use ?_
          cases r with
          | true =>
            simp (disch := first | assumption | omega) only [go_sem, Nat.reduceEqDiff, ↓reduceIte, hf]
            refine ⟨i + 1, by dsimp only; omega, Dr.now ⟨by omega, ?_, rfl, htrue rfl⟩⟩
            simp (disch := first | assumption | omega) only [go_sem, Nat.reduceEqDiff, ↓reduceIte, hf]
          | false =>
            simp (disch := first | assumption | omega) only [go_sem, ↓reduceIte]
            refine retC_by (hD _ _) (.refl _) ⟨?_, rfl⟩
            show AV.bool _ = AV.bool _
            simp [hfalse rfl]
         ·have hlt' : ¬ (i : Int) < ks.length := by omega
          have hfin : Nd.sames ks ks' = true := Nd.sames_all hl fun j u v hu hv => hall j u v (by have := (List.getElem?_eq_some_iff.1 hu).1; omega) hu hv
          simp (disch := first | assumption | omega) only [go_sem, ↓reduceIte, hf, hlt']
          refine retC_by (hD _ _) (.refl _) ⟨?_, rfl⟩
          show AV.bool _ = AV.bool _
          simp [hfin]
        ·have hl' : ¬ (ks.length : Int) = ks'.length := by omega
         have hlm : (ks.map Nd.av).length = ks.length := List.length_map _
         have hlm' : (ks'.map Nd.av).length = ks'.length := List.length_map _
         have hfin : Nd.sames ks ks' = false := by
          cases h : Nd.sames ks ks' with
          | false => rfl
          | true => exact absurd (Nd.sames_len h) hl
         rw [hfin]
         simp (disch := first | assumption | omega) only [go_sem, Nat.reduceEqDiff, Nat.reduceAdd, Nat.reduceLeDiff, ↓reduceIte, Bool.true_and, Bool.and_false, eq_self, hl']
         refine retC_by (hD _ _) (.refl _) ⟨?_, rfl⟩
         show AV.bool _ = AV.bool _
         simp
       ·have h5' := ref_ne h5
        subst h1 h2 h3 h4
        simp (disch := first | assumption | omega) only [go_sem, Nat.reduceEqDiff, Nat.reduceAdd, Nat.reduceLeDiff, ↓reduceIte, Bool.true_and, Bool.false_and, Bool.and_false, eq_self, h5']
        refine retC_by (hD _ _) (.refl _) ⟨?_, rfl⟩
        first | rfl | (show AV.bool _ = AV.bool _; simp [h5])
      ·have h4' := ref_ne h4
       subst h1 h2 h3
       simp (disch := first | assumption | omega) only [go_sem, Nat.reduceEqDiff, Nat.reduceAdd, Nat.reduceLeDiff, ↓reduceIte, Bool.true_and, Bool.false_and, Bool.and_false, eq_self, h4']
       refine retC_by (hD _ _) (.refl _) ⟨?_, rfl⟩
       first | rfl | (show AV.bool _ = AV.bool _; simp [h4])
     ·subst h1 h2
      simp (disch := first | assumption | omega) only [go_sem, Nat.reduceEqDiff, ↓reduceIte, Bool.true_and, Bool.false_and, Bool.and_false, eq_self, h3]
      refine retC_by (hD _ _) (.refl _) ⟨?_, rfl⟩
      first | rfl | (show AV.bool _ = AV.bool _; simp [h3])
    ·subst h1
     simp (disch := first | assumption | omega) only [go_sem, Nat.reduceEqDiff, ↓reduceIte, Bool.false_and, Bool.and_false, eq_self, h2]
     refine retC_by (hD _ _) (.refl _) ⟨?_, rfl⟩
     first | rfl | (show AV.bool _ = AV.bool _; simp [h2])
   ·simp (disch := first | assumption | omega) only [go_sem, Nat.reduceEqDiff, ↓reduceIte, Bool.false_and, h1]
    refine retC_by (hD _ _) (.refl _) ⟨?_, rfl⟩
    first | rfl | (show AV.bool _ = AV.bool _; simp [h1])
theorem rsame_ok (x y : Nd) (hx : x.size ≤ 1000000000) (hy : y.size ≤ 1000000000) : Pure Tryz.prog 10 [x.av, y.av] (.bool (Nd.same x y)) := rsame_le x.size x y (Nat.le_refl _) hx hy
theorem told_ok (n : Nd) (h : n.size ≤ 1000000000) : Pure Tryz.prog 5 [n.av] n.av := told_le n.size n (Nat.le_refl _) h
end Go.A
namespace Go.A
open Go.Proofs Go.Lib
section
variable {T : List Tok}
theorem leaf_size (op n : Int) (s : List UInt8) (a b : Ref) : (Nd.mk op n s a b []).size = 1 := by rw [Nd.size, Nd.sizes]
theorem one_size (op n : Int) (s : List UInt8) (a b : Ref) (x : Nd) : (Nd.mk op n s a b [x]).size = 1 + x.size := by rw [Nd.size, Nd.sizes, Nd.sizes]; omega
theorem two_size (op n : Int) (s : List UInt8) (a b : Ref) (x y : Nd) : (Nd.mk op n s a b [x, y]).size = 1 + x.size + y.size := by rw [Nd.size, Nd.sizes, Nd.sizes, Nd.sizes]; omega
end
end Go.A
namespace Go.A
open Go.Proofs Go.Lib
def sgP (r : List UInt8) : Option Nat := sgF (r.length + 1) r
end Go.A
namespace Go.A
open Go.Proofs Go.Lib
abbrev KT := Int × List UInt8
/-! Single steps. -/
/-! Words. -/
structure NameOk (w : List UInt8) : Prop where
 word : ∀ c ∈ w, wordB c = true
 name : nameB w = true
 num : numB w = false
 ref : refB w = false
 great : greatP w = w
theorem sum_name : NameOk [83, 85, 77] := ⟨by decide, by decide +kernel, by decide +kernel, by decide +kernel, by decide +kernel⟩
theorem if_name : NameOk [73, 70] := ⟨by decide, by decide +kernel, by decide +kernel, by decide +kernel, by decide +kernel⟩
theorem xy_name : NameOk [88, 46, 89] := ⟨by decide, by decide +kernel, by decide +kernel, by decide +kernel, by decide +kernel⟩
theorem a_name : NameOk [95, 65] := ⟨by decide, by decide +kernel, by decide +kernel, by decide +kernel, by decide +kernel⟩
/-! Numbers. -/
/-! References. -/
/-! Errors. -/
/-! Texts between quotes. -/
end Go.A
namespace Go.A
open Go.Proofs Go.Lib
inductive Nf : Nd → Prop
 | num {n : Int} : 0 ≤ n → n ≤ 999999999999999999 → Nf (.mk 1 n [] .zero .zero [])
 | text {s : List UInt8} : sgP s ≠ none → s.length ≤ 8100 → Nf (.mk 2 0 s .zero .zero [])
 | truth {b : Int} : b = 0 ∨ b = 1 → Nf (.mk 3 b [] .zero .zero [])
 | fail {k : Nat} : k < 7 → Nf (.mk 4 (((k : Int) + 1) * 10000) [] .zero .zero [])
 | cell {r : Ref} : r.good = true → Nf (.mk 5 0 [] r .zero [])
 | area {r q : Ref} : r.good = true → q.good = true → Nf (.mk 6 0 [] r q [])
 | sign {op : Int} {x : Nd} : op = 7 ∨ op = 8 → Nf x → x.op ≠ 23 → Nf (.mk op 0 [] .zero .zero [x])
 | hund {x : Nd} : Nf x → x.op ≠ 23 → Nf (.mk 9 0 [] .zero .zero [x])
 | bin {i : Nat} {x y : Nd} : i < 12 → Nf x → x.op ≠ 23 → Nf y → y.op ≠ 23 → Nf (.mk (10 + (i : Int)) 0 [] .zero .zero [x, y])
 | call {s : List UInt8} {ks : List Nd} : NameOk s → s.length ≤ 8100 → (∀ k ∈ ks, Nf k) → (∀ k, ks = [k] → k.op ≠ 23) → Nf (.mk 22 0 s .zero .zero ks)
 | miss : Nf (.mk 23 0 [] .zero .zero [])
def insK (least op : Int) (t : List KT) : List KT := if least ≤ levelP op then t else (6, [40]) :: t ++ [(6, [41])]
def joinK : List (Int × List KT) → List KT
 | [] => []
 | p :: r => p.2 ++ r.flatMap fun q => (6, [44]) :: q.2
def toksK (op n : Int) (s : List UInt8) (a b : Ref) (ks : List (Int × List KT)) : List KT :=
 if op = 1 then [(1, textD n)] else if op = 2 then [(2, s)] else if op = 3 then [(3, truthP (!decide (n = 0)))] else if op = 4 then [(5, failT op n)] else if op = 5 then [(4, textP a)] else if op = 6 then [(4, textP a), (6, [58]), (4, textP b)]
 else if op = 7 ∨ op = 8 then (6, [if op = 7 then 45 else 43]) :: insK 6 (ks.getD 0 (0, [])).1 (ks.getD 0 (0, [])).2
 else if op = 9 then insK 7 (ks.getD 0 (0, [])).1 (ks.getD 0 (0, [])).2 ++ [(6, [37])]
 else if op = 22 then (3, s) :: (6, [40]) :: joinK ks ++ [(6, [41])]
 else if op = 23 then []
 else insK (levelP op) (ks.getD 0 (0, [])).1 (ks.getD 0 (0, [])).2 ++ [(6, signL.getD (op - 10).toNat [])] ++ insK (levelP op + 1) (ks.getD 1 (0, [])).1 (ks.getD 1 (0, [])).2
mutual
def Nd.toks : Nd → List KT
 | .mk op n s a b kids => toksK op n s a b (Nd.toksL kids)
def Nd.toksL : List Nd → List (Int × List KT)
 | [] => []
 | x :: xs => (x.op, x.toks) :: Nd.toksL xs
end
theorem flat_snd {α : Type} (c : α) (f : Nd → List α) (l : List Nd) : (l.map fun x => (x.op, f x)).flatMap (fun q => c :: q.2) = l.flatMap fun x => c :: f x := by
 rw [List.flatMap_map]
theorem lev_bin (i : Nat) (h : i < 12) : 1 ≤ levelP (10 + (i : Int)) ∧ levelP (10 + (i : Int)) ≤ 5 := by
 unfold levelP
 rw [if_neg (by omega), if_neg (by omega), if_neg (by omega)]
 repeat' split
 all_goals decide
theorem spell_bin {i : Nat} (h : i < 12) (x y : Nd) : (Nd.mk (10 + (i : Int)) 0 [] .zero .zero [x, y]).spell = insT (levelP (10 + i)) x.op x.spell ++ signL.getD i [] ++ insT (levelP (10 + i) + 1) y.op y.spell := by
 rw [Nd.spell, Nd.spells, Nd.spells, Nd.spells, spellK]
 rw [if_neg (by omega), if_neg (by omega), if_neg (by omega), if_neg (by omega), if_neg (by omega), if_neg (by omega), if_neg (by omega), if_neg (by omega), if_neg (by omega), if_neg (by omega), show (10 + (i : Int) - 10).toNat = i by omega]
 rfl
theorem spell_sign {op : Int} (h : op = 7 ∨ op = 8) (x : Nd) : (Nd.mk op 0 [] .zero .zero [x]).spell = [if op = 7 then 45 else 43] ++ insT 6 x.op x.spell := by
 rcases h with rfl | rfl <;> rfl
theorem spell_hund (x : Nd) : (Nd.mk 9 0 [] .zero .zero [x]).spell = insT 7 x.op x.spell ++ [37] := rfl
def joinS (ks : List Nd) : List UInt8 := match ks with
 | [] => []
 | x :: xs => x.spell ++ xs.flatMap fun k => 44 :: k.spell
theorem spell_call (s : List UInt8) (ks : List Nd) : (Nd.mk 22 0 s .zero .zero ks).spell = s ++ ([40] ++ (joinS ks ++ [41])) := by
 rw [Nd.spell, Nd.spells_map]
 show s ++ 40 :: joinC _ ++ [41] = _
 cases ks with
 | nil => simp [joinC, joinS]
 | cons x xs =>
   rw [List.map_cons, joinC, flat_snd]
   simp [joinS]
theorem fail_text {k : Nat} (h : k < 7) : failT 4 (((k : Int) + 1) * 10000) = errL.getD k [] := by
 unfold failT
 rw [Int.mul_tdiv_cancel _ (by decide), if_neg (by omega), show ((k : Int) + 1 - 1).toNat = k by omega]
end Go.A
namespace Go.A
open Go.Proofs Go.Lib
/-! Such texts' tokens. -/
end Go.A
namespace Go.A
open Go.Proofs Go.Lib
section
variable {T : List Tok}
variable (T)
variable {T}
/-! A kid, in brackets if it binds less closely. -/
/-! Leaves. -/
/-! Nodes with kids. -/
/-! Calls. -/
end
end Go.A
namespace Go.A
open Go.Proofs
/-! 4: tabular/tabularlaw12.Grow -/
def c4_0 : ACode := .ops [
 ⟨some 2, none, .e (.alloc [(.int .i64 0), (.int .i64 0), (.str []), (.int .i64 0), (.int .i64 0), (.bool false), (.bool false), (.int .i64 0), (.int .i64 0), (.bool false), (.bool false), (.sl .full [])]), []⟩]
def c4_1 : ACode := .ops [
 ⟨some 5, none, .q (.mv (.t 0)), []⟩,
 ⟨some 6, none, .q (.len (.t 5)), []⟩,
 ⟨some 7, none, .q (.bin .gtr (.t 6) (.v (.int .i64 40))), []⟩]
def c4_2 : ACode := .ops [
 ⟨some 8, none, .q (.mv (.t 0)), []⟩,
 ⟨some 9, none, .q (.slto (false, 11) (.t 8) (.v (.int .i64 40))), []⟩,
 ⟨some 0, none, .q (.mv (.t 9)), []⟩]
def c4_3 : ACode := .cond (.t 7) c4_2 .skip
def c4_4 : ACode := .seq c4_1 c4_3
def c4_5 : ACode := .ops [
 ⟨some 11, none, .q (.mv (.t 0)), []⟩,
 ⟨some 12, none, .e (.call 24 [(.t 11), (.v (.int .i64 0))]), []⟩,
 ⟨some 10, none, .q (.mv (.t 12)), []⟩,
 ⟨some 13, none, .q (.ext 0 (.t 10)), []⟩,
 ⟨some 14, none, .q (.ext 1 (.t 10)), []⟩,
 ⟨some 3, none, .e (.alloc [(.int .i64 0), (.int .i64 0), (.str []), (.int .i64 0), (.int .i64 0), (.bool false), (.bool false), (.int .i64 0), (.int .i64 0), (.bool false), (.bool false), (.sl .full [])]), []⟩,
 ⟨none, none, .e (.store 12 (.t 3) (.t 13)), []⟩,
 ⟨some 4, none, .q (.mv (.t 14)), []⟩]
def c4_6 : ACode := .ops [
 ⟨some 15, none, .q (.ld (some 12) (.t 3)), []⟩,
 ⟨none, none, .e (.store 12 (.t 2) (.t 15)), []⟩]
def c4_7 : ACode := .seq c4_6 .ret
def c4_8 : ACode := .seq c4_5 c4_7
def c4_9 : ACode := .seq c4_4 c4_8
def c4_10 : ACode := .seq c4_0 c4_9
@[go_sem] def c4_0_wp := wp_of c4_0.eq_1
@[go_sem] def c4_1_wp := wp_of c4_1.eq_1
@[go_sem] def c4_2_wp := wp_of c4_2.eq_1
@[go_sem] def c4_3_wp := wp_of c4_3.eq_1
@[go_sem] def c4_4_wp := wp_of c4_4.eq_1
@[go_sem] def c4_5_wp := wp_of c4_5.eq_1
@[go_sem] def c4_6_wp := wp_of c4_6.eq_1
@[go_sem] def c4_7_wp := wp_of c4_7.eq_1
@[go_sem] def c4_8_wp := wp_of c4_8.eq_1
@[go_sem] def c4_9_wp := wp_of c4_9.eq_1
@[go_sem] def c4_10_wp := wp_of c4_10.eq_1
def c4 : AFn := ⟨16, [.c 2 (some 12)], c4_10⟩
theorem c4_ok : compF Tryz.prog Tryz.f4 = some c4 := by kernel_rfl
theorem a4 {args : List AV} {σ : ASt} {R : AV → ASt → Prop} (hl : args.length ≤ 16) (h : c4_10.wp Tryz.prog (RetQ [.c 2 (some 12)] R) (init args) σ) : ACalls Tryz.prog 4 args σ R := acalls_of Tryz.func4 c4_ok hl h
end Go.A
