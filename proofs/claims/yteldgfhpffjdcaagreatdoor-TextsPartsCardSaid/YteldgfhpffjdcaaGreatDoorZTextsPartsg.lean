/- Part 7 of what TextsParts leans on: CodeUg Ug CodeUh Uh CodeUi Ui CodeJx Jx CodeUj Uj Uk CodeUl Ul CodeUm Um Ms Mu. -/
import Derived.Test.YteldgfhpffjdcaaGreatDoorProg
import Derived.KernelRfl
import Derived.Test.YteldgfhpffjdcaaGreatDoorRows
import Derived.ProofKit
import Derived.LaidMore
import Derived.OpenShut
import Derived.Stop.LaidErr
import Derived.MakeChecks
import Derived.SevenTiedAt
import Derived.Lay
import Derived.ChangeArms
import Derived.Lib.LaidU8
import Derived.Lib.LaidTab
import Derived.Test.YteldgfhpffjdcaaGreatDoorZTextsPartsf
set_option linter.defProp false
set_option linter.unusedSimpArgs false
set_option linter.unusedVariables false
set_option maxRecDepth 100000
namespace Go.A
open Go.Proofs
/-! 12: tabular/texts.Call -/
def c12_0 : ACode := .ops [
 ⟨some 4, none, .q (.mv (.v .nili)), []⟩]
def c12_1 : ACode := .ops [
 ⟨some 10, none, .q (.mv (.t 0)), []⟩,
 ⟨some 11, none, .e (.call 22 [(.t 10)]), []⟩,
 ⟨some 9, none, .q (.mv (.t 11)), []⟩,
 ⟨some 12, none, .q (.ext 0 (.t 9)), []⟩,
 ⟨some 13, none, .q (.ext 1 (.t 9)), []⟩,
 ⟨some 5, none, .q (.mv (.t 12)), []⟩,
 ⟨some 6, none, .q (.mv (.t 13)), []⟩]
def c12_2 : ACode := .ops [
 ⟨some 14, none, .q (.mv (.t 6)), []⟩,
 ⟨some 15, none, .q (.bin .eql (.t 14) (.v (.int .i64 0))), []⟩]
def c12_3 : ACode := .ops [
 ⟨some 16, none, .q (.mki 39 (.v (.int .i64 6))), []⟩,
 ⟨some 4, none, .q (.mv (.t 16)), []⟩]
def c12_4 : ACode := .seq c12_3 .ret
def c12_5 : ACode := .cond (.t 15) c12_4 .skip
def c12_6 : ACode := .seq c12_2 c12_5
def c12_7 : ACode := .ops [
 ⟨some 17, none, .q (.mv (.t 1)), []⟩,
 ⟨some 18, none, .q (.len (.t 17)), []⟩,
 ⟨some 19, none, .q (.mv (.t 5)), []⟩,
 ⟨some 20, none, .q (.bin .lss (.t 18) (.t 19)), []⟩,
 ⟨some 21, none, .q (.mv (.t 20)), []⟩,
 ⟨some 22, some (21, false), .q (.mv (.t 1)), []⟩,
 ⟨some 23, some (21, false), .q (.len (.t 22)), []⟩,
 ⟨some 24, some (21, false), .q (.mv (.t 6)), []⟩,
 ⟨some 25, some (21, false), .q (.bin .gtr (.t 23) (.t 24)), []⟩,
 ⟨some 26, none, .q (.pick (.t 21) (.v (.bool true)) (.t 25)), []⟩]
def c12_8 : ACode := .ops [
 ⟨some 27, none, .q (.mki 39 (.v (.int .i64 3))), []⟩,
 ⟨some 4, none, .q (.mv (.t 27)), []⟩]
def c12_9 : ACode := .seq c12_8 .ret
def c12_10 : ACode := .cond (.t 26) c12_9 .skip
def c12_11 : ACode := .seq c12_7 c12_10
def c12_12 : ACode := .ops [
 ⟨some 28, none, .q (.mv (.t 1)), []⟩,
 ⟨some 29, none, .q (.build [(.sl .full []), (.int .i64 0)] [(0, 1, (.t 28))]), []⟩,
 ⟨some 30, none, .e (.box (.t 29)), []⟩,
 ⟨some 7, none, .q (.mv (.t 30)), []⟩]
def c12_13 : ACode := .ops [
 ⟨some 31, none, .q (.mv (.t 7)), []⟩,
 ⟨some 32, none, .q (.mv (.t 0)), []⟩,
 ⟨some 33, none, .e (.call 23 [(.t 31), (.t 32)]), []⟩,
 ⟨some 8, none, .q (.mv (.t 33)), []⟩]
def c12_14 : ACode := .ops [
 ⟨some 34, none, .q (.mv (.t 7)), []⟩,
 ⟨some 35, none, .q (.nc (.t 34)), []⟩,
 ⟨some 36, none, .q (.fa 1 (.t 35)), []⟩,
 ⟨some 37, none, .q (.ld none (.t 36)), []⟩,
 ⟨some 38, none, .q (.bin .neq (.t 37) (.v (.int .i64 0))), []⟩]
def c12_15 : ACode := .ops [
 ⟨some 39, none, .q (.mv (.t 7)), []⟩,
 ⟨some 40, none, .q (.nc (.t 39)), []⟩,
 ⟨some 41, none, .q (.fa 1 (.t 40)), []⟩,
 ⟨some 42, none, .q (.ld none (.t 41)), []⟩,
 ⟨some 43, none, .q (.mki 39 (.t 42)), []⟩,
 ⟨some 4, none, .q (.mv (.t 43)), []⟩]
def c12_16 : ACode := .seq c12_15 .ret
def c12_17 : ACode := .cond (.t 38) c12_16 .skip
def c12_18 : ACode := .seq c12_14 c12_17
def c12_19 : ACode := .ops [
 ⟨some 44, none, .q (.mv (.t 8)), []⟩,
 ⟨some 4, none, .q (.mv (.t 44)), []⟩]
def c12_20 : ACode := .seq c12_19 .ret
def c12_21 : ACode := .seq c12_18 c12_20
def c12_22 : ACode := .seq c12_13 c12_21
def c12_23 : ACode := .seq c12_12 c12_22
def c12_24 : ACode := .seq c12_11 c12_23
def c12_25 : ACode := .seq c12_6 c12_24
def c12_26 : ACode := .seq c12_1 c12_25
def c12_27 : ACode := .seq c12_0 c12_26
@[go_sem] def c12_0_wp := wp_of c12_0.eq_1
@[go_sem] def c12_1_wp := wp_of c12_1.eq_1
@[go_sem] def c12_2_wp := wp_of c12_2.eq_1
@[go_sem] def c12_5_wp := wp_of c12_5.eq_1
@[go_sem] def c12_6_wp := wp_of c12_6.eq_1
@[go_sem] def c12_7_wp := wp_of c12_7.eq_1
@[go_sem] def c12_10_wp := wp_of c12_10.eq_1
@[go_sem] def c12_11_wp := wp_of c12_11.eq_1
@[go_sem] def c12_12_wp := wp_of c12_12.eq_1
@[go_sem] def c12_13_wp := wp_of c12_13.eq_1
@[go_sem] def c12_14_wp := wp_of c12_14.eq_1
@[go_sem] def c12_15_wp := wp_of c12_15.eq_1
@[go_sem] def c12_16_wp := wp_of c12_16.eq_1
@[go_sem] def c12_17_wp := wp_of c12_17.eq_1
@[go_sem] def c12_18_wp := wp_of c12_18.eq_1
@[go_sem] def c12_19_wp := wp_of c12_19.eq_1
@[go_sem] def c12_20_wp := wp_of c12_20.eq_1
@[go_sem] def c12_21_wp := wp_of c12_21.eq_1
@[go_sem] def c12_22_wp := wp_of c12_22.eq_1
@[go_sem] def c12_23_wp := wp_of c12_23.eq_1
@[go_sem] def c12_24_wp := wp_of c12_24.eq_1
@[go_sem] def c12_25_wp := wp_of c12_25.eq_1
@[go_sem] def c12_26_wp := wp_of c12_26.eq_1
@[go_sem] def c12_27_wp := wp_of c12_27.eq_1
def c12 : AFn := ⟨45, [.t 4], c12_27⟩
theorem c12_ok : compF Tryz.prog Tryz.f12 = some c12 := by kernel_rfl
theorem a12 {args : List AV} {σ : ASt} {R : AV → ASt → Prop} (hl : args.length ≤ 45) (h : c12_27.wp Tryz.prog (RetQ [.t 4] R) (init args) σ) : ACalls Tryz.prog 12 args σ R := acalls_of Tryz.func12 c12_ok hl h
/-! 22: tabular/texts.limits -/
def c22_0 : ACode := .ops [
 ⟨some 2, none, .q (.mv (.v (.int .i64 0))), []⟩,
 ⟨some 3, none, .q (.mv (.v (.int .i64 0))), []⟩]
def c22_1 : ACode := .ops [
 ⟨some 4, none, .q (.mv (.t 0)), []⟩]
def c22_2 : ACode := .ops [
 ⟨some 6, none, .q (.bin .eql (.t 4) (.v (.str [76, 69, 78]))), []⟩,
 ⟨some 5, none, .q (.mv (.t 6)), []⟩]
def c22_3 : ACode := .ops [
 ⟨some 7, none, .q (.bin .eql (.t 4) (.v (.str [85, 80, 80, 69, 82]))), []⟩,
 ⟨some 5, none, .q (.mv (.t 7)), []⟩]
def c22_4 : ACode := .ops [
 ⟨some 8, none, .q (.bin .eql (.t 4) (.v (.str [76, 79, 87, 69, 82]))), []⟩,
 ⟨some 5, none, .q (.mv (.t 8)), []⟩]
def c22_5 : ACode := .ops [
 ⟨some 9, none, .q (.bin .eql (.t 4) (.v (.str [80, 82, 79, 80, 69, 82]))), []⟩,
 ⟨some 5, none, .q (.mv (.t 9)), []⟩]
def c22_6 : ACode := .ops [
 ⟨some 10, none, .q (.bin .eql (.t 4) (.v (.str [84, 82, 73, 77]))), []⟩,
 ⟨some 5, none, .q (.mv (.t 10)), []⟩]
def c22_7 : ACode := .ops [
 ⟨some 11, none, .q (.bin .eql (.t 4) (.v (.str [86, 65, 76, 85, 69]))), []⟩,
 ⟨some 5, none, .q (.mv (.t 11)), []⟩]
def c22_8 : ACode := .ops [
 ⟨some 12, none, .q (.bin .eql (.t 4) (.v (.str [67, 72, 65, 82]))), []⟩,
 ⟨some 5, none, .q (.mv (.t 12)), []⟩]
def c22_9 : ACode := .ops [
 ⟨some 13, none, .q (.bin .eql (.t 4) (.v (.str [67, 79, 68, 69]))), []⟩,
 ⟨some 5, none, .q (.mv (.t 13)), []⟩]
def c22_10 : ACode := .ops [
 ⟨some 14, none, .q (.bin .eql (.t 4) (.v (.str [84]))), []⟩,
 ⟨some 5, none, .q (.mv (.t 14)), []⟩]
def c22_11 : ACode := .ops [
 ⟨some 15, none, .q (.bin .eql (.t 4) (.v (.str [82, 69, 86, 69, 82, 83, 69]))), []⟩,
 ⟨some 5, none, .q (.mv (.t 15)), []⟩]
def c22_12 : ACode := .cond (.t 5) .skip c22_11
def c22_13 : ACode := .seq c22_10 c22_12
def c22_14 : ACode := .cond (.t 5) .skip c22_13
def c22_15 : ACode := .seq c22_9 c22_14
def c22_16 : ACode := .cond (.t 5) .skip c22_15
def c22_17 : ACode := .seq c22_8 c22_16
def c22_18 : ACode := .cond (.t 5) .skip c22_17
def c22_19 : ACode := .seq c22_7 c22_18
def c22_20 : ACode := .cond (.t 5) .skip c22_19
def c22_21 : ACode := .seq c22_6 c22_20
def c22_22 : ACode := .cond (.t 5) .skip c22_21
def c22_23 : ACode := .seq c22_5 c22_22
def c22_24 : ACode := .cond (.t 5) .skip c22_23
def c22_25 : ACode := .seq c22_4 c22_24
def c22_26 : ACode := .cond (.t 5) .skip c22_25
def c22_27 : ACode := .seq c22_3 c22_26
def c22_28 : ACode := .cond (.t 5) .skip c22_27
def c22_29 : ACode := .seq c22_2 c22_28
def c22_30 : ACode := .ops [
 ⟨some 2, none, .q (.mv (.v (.int .i64 1))), []⟩,
 ⟨some 3, none, .q (.mv (.v (.int .i64 1))), []⟩]
def c22_31 : ACode := .seq c22_30 .ret
def c22_32 : ACode := .ops [
 ⟨some 17, none, .q (.bin .eql (.t 4) (.v (.str [76, 69, 70, 84]))), []⟩,
 ⟨some 16, none, .q (.mv (.t 17)), []⟩]
def c22_33 : ACode := .ops [
 ⟨some 18, none, .q (.bin .eql (.t 4) (.v (.str [82, 73, 71, 72, 84]))), []⟩,
 ⟨some 16, none, .q (.mv (.t 18)), []⟩]
def c22_34 : ACode := .ops [
 ⟨some 19, none, .q (.bin .eql (.t 4) (.v (.str [70, 73, 88, 69, 68]))), []⟩,
 ⟨some 16, none, .q (.mv (.t 19)), []⟩]
def c22_35 : ACode := .cond (.t 16) .skip c22_34
def c22_36 : ACode := .seq c22_33 c22_35
def c22_37 : ACode := .cond (.t 16) .skip c22_36
def c22_38 : ACode := .seq c22_32 c22_37
def c22_39 : ACode := .ops [
 ⟨some 2, none, .q (.mv (.v (.int .i64 1))), []⟩,
 ⟨some 3, none, .q (.mv (.v (.int .i64 2))), []⟩]
def c22_40 : ACode := .seq c22_39 .ret
def c22_41 : ACode := .ops [
 ⟨some 21, none, .q (.bin .eql (.t 4) (.v (.str [82, 69, 80, 84]))), []⟩,
 ⟨some 20, none, .q (.mv (.t 21)), []⟩]
def c22_42 : ACode := .ops [
 ⟨some 22, none, .q (.bin .eql (.t 4) (.v (.str [69, 88, 65, 67, 84]))), []⟩,
 ⟨some 20, none, .q (.mv (.t 22)), []⟩]
def c22_43 : ACode := .cond (.t 20) .skip c22_42
def c22_44 : ACode := .seq c22_41 c22_43
def c22_45 : ACode := .ops [
 ⟨some 2, none, .q (.mv (.v (.int .i64 2))), []⟩,
 ⟨some 3, none, .q (.mv (.v (.int .i64 2))), []⟩]
def c22_46 : ACode := .seq c22_45 .ret
def c22_47 : ACode := .ops [
 ⟨some 24, none, .q (.bin .eql (.t 4) (.v (.str [70, 73, 78, 68]))), []⟩,
 ⟨some 23, none, .q (.mv (.t 24)), []⟩]
def c22_48 : ACode := .ops [
 ⟨some 25, none, .q (.bin .eql (.t 4) (.v (.str [83, 69, 65, 82, 67, 72]))), []⟩,
 ⟨some 23, none, .q (.mv (.t 25)), []⟩]
def c22_49 : ACode := .cond (.t 23) .skip c22_48
def c22_50 : ACode := .seq c22_47 c22_49
def c22_51 : ACode := .ops [
 ⟨some 2, none, .q (.mv (.v (.int .i64 2))), []⟩,
 ⟨some 3, none, .q (.mv (.v (.int .i64 3))), []⟩]
def c22_52 : ACode := .seq c22_51 .ret
def c22_53 : ACode := .ops [
 ⟨some 27, none, .q (.bin .eql (.t 4) (.v (.str [77, 73, 68]))), []⟩,
 ⟨some 26, none, .q (.mv (.t 27)), []⟩]
def c22_54 : ACode := .ops [
 ⟨some 2, none, .q (.mv (.v (.int .i64 3))), []⟩,
 ⟨some 3, none, .q (.mv (.v (.int .i64 3))), []⟩]
def c22_55 : ACode := .seq c22_54 .ret
def c22_56 : ACode := .ops [
 ⟨some 29, none, .q (.bin .eql (.t 4) (.v (.str [83, 85, 66, 83, 84, 73, 84, 85, 84, 69]))), []⟩,
 ⟨some 28, none, .q (.mv (.t 29)), []⟩]
def c22_57 : ACode := .ops [
 ⟨some 2, none, .q (.mv (.v (.int .i64 3))), []⟩,
 ⟨some 3, none, .q (.mv (.v (.int .i64 4))), []⟩]
def c22_58 : ACode := .seq c22_57 .ret
def c22_59 : ACode := .ops [
 ⟨some 31, none, .q (.bin .eql (.t 4) (.v (.str [82, 69, 80, 76, 65, 67, 69]))), []⟩,
 ⟨some 30, none, .q (.mv (.t 31)), []⟩]
def c22_60 : ACode := .ops [
 ⟨some 2, none, .q (.mv (.v (.int .i64 4))), []⟩,
 ⟨some 3, none, .q (.mv (.v (.int .i64 4))), []⟩]
def c22_61 : ACode := .seq c22_60 .ret
def c22_62 : ACode := .ops [
 ⟨some 33, none, .q (.bin .eql (.t 4) (.v (.str [67, 79, 78, 67, 65, 84]))), []⟩,
 ⟨some 32, none, .q (.mv (.t 33)), []⟩]
def c22_63 : ACode := .ops [
 ⟨some 2, none, .q (.mv (.v (.int .i64 1))), []⟩,
 ⟨some 3, none, .q (.mv (.v (.int .i64 30))), []⟩]
def c22_64 : ACode := .seq c22_63 .ret
def c22_65 : ACode := .cond (.t 32) c22_64 .skip
def c22_66 : ACode := .seq c22_62 c22_65
def c22_67 : ACode := .cond (.t 30) c22_61 c22_66
def c22_68 : ACode := .seq c22_59 c22_67
def c22_69 : ACode := .cond (.t 28) c22_58 c22_68
def c22_70 : ACode := .seq c22_56 c22_69
def c22_71 : ACode := .cond (.t 26) c22_55 c22_70
def c22_72 : ACode := .seq c22_53 c22_71
def c22_73 : ACode := .cond (.t 23) c22_52 c22_72
def c22_74 : ACode := .seq c22_50 c22_73
def c22_75 : ACode := .cond (.t 20) c22_46 c22_74
def c22_76 : ACode := .seq c22_44 c22_75
def c22_77 : ACode := .cond (.t 16) c22_40 c22_76
def c22_78 : ACode := .seq c22_38 c22_77
def c22_79 : ACode := .cond (.t 5) c22_31 c22_78
def c22_80 : ACode := .seq c22_29 c22_79
def c22_81 : ACode := .block 0 c22_80
def c22_82 : ACode := .seq c22_1 c22_81
def c22_83 : ACode := .ops [
 ⟨some 2, none, .q (.mv (.v (.int .i64 0))), []⟩,
 ⟨some 3, none, .q (.mv (.v (.int .i64 0))), []⟩]
def c22_84 : ACode := .seq c22_83 .ret
def c22_85 : ACode := .seq c22_82 c22_84
def c22_86 : ACode := .seq c22_0 c22_85
@[go_sem] def c22_0_wp := wp_of c22_0.eq_1
@[go_sem] def c22_1_wp := wp_of c22_1.eq_1
@[go_sem] def c22_2_wp := wp_of c22_2.eq_1
@[go_sem] def c22_3_wp := wp_of c22_3.eq_1
@[go_sem] def c22_4_wp := wp_of c22_4.eq_1
@[go_sem] def c22_5_wp := wp_of c22_5.eq_1
@[go_sem] def c22_6_wp := wp_of c22_6.eq_1
@[go_sem] def c22_7_wp := wp_of c22_7.eq_1
@[go_sem] def c22_8_wp := wp_of c22_8.eq_1
@[go_sem] def c22_9_wp := wp_of c22_9.eq_1
@[go_sem] def c22_10_wp := wp_of c22_10.eq_1
@[go_sem] def c22_11_wp := wp_of c22_11.eq_1
@[go_sem] def c22_12_wp := wp_of c22_12.eq_1
@[go_sem] def c22_13_wp := wp_of c22_13.eq_1
@[go_sem] def c22_14_wp := wp_of c22_14.eq_1
@[go_sem] def c22_15_wp := wp_of c22_15.eq_1
@[go_sem] def c22_16_wp := wp_of c22_16.eq_1
@[go_sem] def c22_17_wp := wp_of c22_17.eq_1
@[go_sem] def c22_18_wp := wp_of c22_18.eq_1
@[go_sem] def c22_19_wp := wp_of c22_19.eq_1
@[go_sem] def c22_20_wp := wp_of c22_20.eq_1
@[go_sem] def c22_21_wp := wp_of c22_21.eq_1
@[go_sem] def c22_22_wp := wp_of c22_22.eq_1
@[go_sem] def c22_23_wp := wp_of c22_23.eq_1
@[go_sem] def c22_24_wp := wp_of c22_24.eq_1
@[go_sem] def c22_25_wp := wp_of c22_25.eq_1
@[go_sem] def c22_26_wp := wp_of c22_26.eq_1
@[go_sem] def c22_27_wp := wp_of c22_27.eq_1
@[go_sem] def c22_28_wp := wp_of c22_28.eq_1
@[go_sem] def c22_29_wp := wp_of c22_29.eq_1
@[go_sem] def c22_30_wp := wp_of c22_30.eq_1
@[go_sem] def c22_31_wp := wp_of c22_31.eq_1
@[go_sem] def c22_32_wp := wp_of c22_32.eq_1
@[go_sem] def c22_33_wp := wp_of c22_33.eq_1
@[go_sem] def c22_34_wp := wp_of c22_34.eq_1
@[go_sem] def c22_35_wp := wp_of c22_35.eq_1
@[go_sem] def c22_36_wp := wp_of c22_36.eq_1
@[go_sem] def c22_37_wp := wp_of c22_37.eq_1
@[go_sem] def c22_38_wp := wp_of c22_38.eq_1
@[go_sem] def c22_39_wp := wp_of c22_39.eq_1
@[go_sem] def c22_40_wp := wp_of c22_40.eq_1
@[go_sem] def c22_41_wp := wp_of c22_41.eq_1
@[go_sem] def c22_42_wp := wp_of c22_42.eq_1
@[go_sem] def c22_43_wp := wp_of c22_43.eq_1
@[go_sem] def c22_44_wp := wp_of c22_44.eq_1
@[go_sem] def c22_45_wp := wp_of c22_45.eq_1
@[go_sem] def c22_46_wp := wp_of c22_46.eq_1
@[go_sem] def c22_47_wp := wp_of c22_47.eq_1
@[go_sem] def c22_48_wp := wp_of c22_48.eq_1
@[go_sem] def c22_49_wp := wp_of c22_49.eq_1
@[go_sem] def c22_50_wp := wp_of c22_50.eq_1
@[go_sem] def c22_51_wp := wp_of c22_51.eq_1
@[go_sem] def c22_52_wp := wp_of c22_52.eq_1
@[go_sem] def c22_53_wp := wp_of c22_53.eq_1
@[go_sem] def c22_54_wp := wp_of c22_54.eq_1
@[go_sem] def c22_55_wp := wp_of c22_55.eq_1
@[go_sem] def c22_56_wp := wp_of c22_56.eq_1
@[go_sem] def c22_57_wp := wp_of c22_57.eq_1
@[go_sem] def c22_58_wp := wp_of c22_58.eq_1
@[go_sem] def c22_59_wp := wp_of c22_59.eq_1
@[go_sem] def c22_60_wp := wp_of c22_60.eq_1
@[go_sem] def c22_61_wp := wp_of c22_61.eq_1
@[go_sem] def c22_62_wp := wp_of c22_62.eq_1
@[go_sem] def c22_63_wp := wp_of c22_63.eq_1
@[go_sem] def c22_64_wp := wp_of c22_64.eq_1
@[go_sem] def c22_65_wp := wp_of c22_65.eq_1
@[go_sem] def c22_66_wp := wp_of c22_66.eq_1
@[go_sem] def c22_67_wp := wp_of c22_67.eq_1
@[go_sem] def c22_68_wp := wp_of c22_68.eq_1
@[go_sem] def c22_69_wp := wp_of c22_69.eq_1
@[go_sem] def c22_70_wp := wp_of c22_70.eq_1
@[go_sem] def c22_71_wp := wp_of c22_71.eq_1
@[go_sem] def c22_72_wp := wp_of c22_72.eq_1
@[go_sem] def c22_73_wp := wp_of c22_73.eq_1
@[go_sem] def c22_74_wp := wp_of c22_74.eq_1
@[go_sem] def c22_75_wp := wp_of c22_75.eq_1
@[go_sem] def c22_76_wp := wp_of c22_76.eq_1
@[go_sem] def c22_77_wp := wp_of c22_77.eq_1
@[go_sem] def c22_78_wp := wp_of c22_78.eq_1
@[go_sem] def c22_79_wp := wp_of c22_79.eq_1
@[go_sem] def c22_80_wp := wp_of c22_80.eq_1
@[go_sem] def c22_81_wp := wp_of c22_81.eq_1
@[go_sem] def c22_82_wp := wp_of c22_82.eq_1
@[go_sem] def c22_83_wp := wp_of c22_83.eq_1
@[go_sem] def c22_84_wp := wp_of c22_84.eq_1
@[go_sem] def c22_85_wp := wp_of c22_85.eq_1
@[go_sem] def c22_86_wp := wp_of c22_86.eq_1
def c22 : AFn := ⟨34, [.t 2, .t 3], c22_86⟩
theorem c22_ok : compF Tryz.prog Tryz.f22 = some c22 := by kernel_rfl
theorem a22 {args : List AV} {σ : ASt} {R : AV → ASt → Prop} (hl : args.length ≤ 34) (h : c22_86.wp Tryz.prog (RetQ [.t 2, .t 3] R) (init args) σ) : ACalls Tryz.prog 22 args σ R := acalls_of Tryz.func22 c22_ok hl h
end Go.A
namespace Go.A
open Go.Proofs Go.Lib
def nLEN : List UInt8 := [76, 69, 78]
def nUPPER : List UInt8 := [85, 80, 80, 69, 82]
def nLOWER : List UInt8 := [76, 79, 87, 69, 82]
def nPROPER : List UInt8 := [80, 82, 79, 80, 69, 82]
def nTRIM : List UInt8 := [84, 82, 73, 77]
def nVALUE : List UInt8 := [86, 65, 76, 85, 69]
def nCHAR : List UInt8 := [67, 72, 65, 82]
def nCODE : List UInt8 := [67, 79, 68, 69]
def nT : List UInt8 := [84]
def nREVERSE : List UInt8 := [82, 69, 86, 69, 82, 83, 69]
def nLEFT : List UInt8 := [76, 69, 70, 84]
def nRIGHT : List UInt8 := [82, 73, 71, 72, 84]
def nFIXED : List UInt8 := [70, 73, 88, 69, 68]
def nREPT : List UInt8 := [82, 69, 80, 84]
def nEXACT : List UInt8 := [69, 88, 65, 67, 84]
def nFIND : List UInt8 := [70, 73, 78, 68]
def nSEARCH : List UInt8 := [83, 69, 65, 82, 67, 72]
def nMID : List UInt8 := [77, 73, 68]
def nSUBSTITUTE : List UInt8 := [83, 85, 66, 83, 84, 73, 84, 85, 84, 69]
def nREPLACE : List UInt8 := [82, 69, 80, 76, 65, 67, 69]
def nCONCAT : List UInt8 := [67, 79, 78, 67, 65, 84]
def limX (s : List UInt8) : Int × Int :=
 if s ∈ [nLEN, nUPPER, nLOWER, nPROPER, nTRIM, nVALUE, nCHAR, nCODE, nT, nREVERSE] then (1, 1)
 else if s ∈ [nLEFT, nRIGHT, nFIXED] then (1, 2)
 else if s ∈ [nREPT, nEXACT] then (2, 2)
 else if s ∈ [nFIND, nSEARCH] then (2, 3)
 else if s = nMID then (3, 3)
 else if s = nSUBSTITUTE then (3, 4)
 else if s = nREPLACE then (4, 4)
 else if s = nCONCAT then (1, 30)
 else (0, 0)
set_option maxHeartbeats 4000000 in
theorem xlimits_ok (s : List UInt8) : Pure Tryz.prog 22 [.str s] (.tuple [.int .i64 (limX s).1, .int .i64 (limX s).2]) := by
 intro σ
 refine a22 (by simp) ?_
 repeat' (first | (simp (disch := first | assumption | omega) only [go_sem, reduceCtorEq, Nat.reduceEqDiff, ↓reduceIte]) | with_reducible refine gC_d (fun h => ?_) (fun h => ?_) | with_reducible refine gC_dn (fun h => ?_) (fun h => ?_) | with_reducible refine condC_d (fun h => ?_) (fun h => ?_) | with_reducible refine condC_n (fun h => ?_) (fun h => ?_) | with_reducible refine condC_b (fun h => ?_) (fun h => ?_) | with_reducible refine boxC_by ?_ fun b hb => ?_)
 all_goals refine retC_by (by repeat' (first | exact Drop.refl _ | with_reducible refine Drop.off ?_ (by assumption))) (.refl _) ⟨?_, rfl⟩
 all_goals simp [limX, nLEN, nUPPER, nLOWER, nPROPER, nTRIM, nVALUE, nCHAR, nCODE, nT, nREVERSE, nLEFT, nRIGHT, nFIXED, nREPT, nEXACT, nFIND, nSEARCH, nMID, nSUBSTITUTE, nREPLACE, nCONCAT, *]
 all_goals rfl
theorem xcall_of {σ : ASt} (hT : Tab σ) (s : List UInt8) (L : List PV) (V : PV) (f : Int) (h0 : (limX s).2 ≠ 0) (h1 : (limX s).1 ≤ L.length) (h2 : (L.length : Int) ≤ (limX s).2)
  (hr : ∀ (b : Nat) (τ : ASt), Tab τ → τ b = rdO L 0 → (∀ x r, σ x = some r → τ x = some r) → ACalls Tryz.prog 23 [.ptr b 0, .str s] τ fun v σ' => v = V.av ∧ σ' = τ.set b (rdO L f)) :
  ACalls Tryz.prog 12 [.str s, .sl .shr (L.map argAV)] σ fun v σ' => v = (if f = 0 then V else .fail f).av ∧ σ' = σ := by
 have hL := xlimits_ok s
 have hl : (L.map argAV).length = L.length := List.length_map _
 generalize (limX s).1 = least at *
 generalize (limX s).2 = most at *
 unfold rdO at hr
 generalize L.map argAV = LA at *
 refine a12 (by simp) ?_
 simp (disch := first | assumption | omega) only [go_sem, reduceCtorEq, ↓reduceIte]
 refine hL.use ?_
 have g1 : ¬ ((LA.length : Int) < least) := by omega
 have g2 : ¬ (most < (LA.length : Int)) := by omega
 have g3 : ¬ ((L.length : Int) < least) := by omega
 have g4 : ¬ (most < (L.length : Int)) := by omega
 simp (disch := first | assumption | omega) only [go_sem, Nat.reduceEqDiff, Nat.reduceAdd, Nat.reduceLeDiff, ↓reduceIte, h0, hl, g3, g4]
 refine boxC_by rfl fun b hb => ?_
 simp (disch := first | assumption | omega) only [go_sem, reduceCtorEq, Nat.reduceEqDiff, ↓reduceIte]
 refine (hr b _ (Tab.set hT hb) (ASt.set_same _ _ _) (fun x r hx => by rw [ASt.set_ne (by rintro rfl; rw [hb] at hx; cases hx)]; exact hx)).mono ?_
 rintro v σ' ⟨rfl, rfl⟩
 by_cases hf : f = 0
 ·rw [if_pos hf]
  simp (disch := first | assumption | omega) only [go_sem, Nat.reduceEqDiff, ↓reduceIte, ASt.set_set, hf]
  exact retC_by (Drop.set hb) (.refl _) ⟨rfl, rfl⟩
 ·rw [if_neg hf]
  simp only [PV.av]
  simp (disch := first | assumption | omega) only [go_sem, Nat.reduceEqDiff, ↓reduceIte, ASt.set_set, hf]
  exact retC_by (Drop.set hb) (.refl _) ⟨rfl, rfl⟩
end Go.A
namespace Go.A
open Go.Proofs
/-! 23: (*tabular/texts.reader).call -/
def c23_0 : ACode := .ops [
 ⟨some 4, none, .q (.mv (.v .nili)), []⟩]
def c23_1 : ACode := .ops [
 ⟨some 18, none, .q (.mv (.t 1)), []⟩]
def c23_2 : ACode := .ops [
 ⟨some 20, none, .q (.bin .eql (.t 18) (.v (.str [67, 72, 65, 82]))), []⟩,
 ⟨some 19, none, .q (.mv (.t 20)), []⟩]
def c23_3 : ACode := .ops [
 ⟨some 21, none, .q (.mv (.t 0)), []⟩,
 ⟨some 22, none, .e (.call 30 [(.t 21), (.v (.int .i64 0)), (.v (.int .i64 0))]), []⟩,
 ⟨some 23, none, .e (.call 29 [(.t 22)]), []⟩,
 ⟨some 4, none, .q (.mv (.t 23)), []⟩]
def c23_4 : ACode := .seq c23_3 .ret
def c23_5 : ACode := .ops [
 ⟨some 25, none, .q (.bin .eql (.t 18) (.v (.str [67, 79, 78, 67, 65, 84]))), []⟩,
 ⟨some 24, none, .q (.mv (.t 25)), []⟩]
def c23_6 : ACode := .ops [
 ⟨some 26, none, .q (.mv (.t 0)), []⟩,
 ⟨some 27, none, .e (.call 31 [(.t 26)]), []⟩,
 ⟨some 4, none, .q (.mv (.t 27)), []⟩]
def c23_7 : ACode := .seq c23_6 .ret
def c23_8 : ACode := .ops [
 ⟨some 29, none, .q (.bin .eql (.t 18) (.v (.str [70, 73, 88, 69, 68]))), []⟩,
 ⟨some 28, none, .q (.mv (.t 29)), []⟩]
def c23_9 : ACode := .ops [
 ⟨some 31, none, .q (.mv (.t 0)), []⟩,
 ⟨some 32, none, .q (.nc (.t 31)), []⟩,
 ⟨some 33, none, .q (.fa 0 (.t 32)), []⟩,
 ⟨some 34, none, .q (.ld none (.t 33)), []⟩,
 ⟨some 35, none, .q (.ia 4 (.t 34) (.v (.int .i64 0))), []⟩,
 ⟨some 36, none, .q (.ld (some 4) (.t 35)), []⟩,
 ⟨some 37, none, .e (.call 33 [(.t 36)]), []⟩,
 ⟨some 38, none, .e (.call 32 [(.t 37)]), []⟩,
 ⟨some 30, none, .q (.mv (.t 38)), []⟩,
 ⟨some 39, none, .q (.ext 0 (.t 30)), []⟩,
 ⟨some 40, none, .q (.ext 1 (.t 30)), []⟩,
 ⟨some 5, none, .q (.mv (.t 39)), []⟩,
 ⟨some 6, none, .q (.mv (.t 40)), []⟩]
def c23_10 : ACode := .ops [
 ⟨some 41, none, .q (.mv (.t 0)), []⟩,
 ⟨some 42, none, .q (.mv (.t 6)), []⟩,
 ⟨some 43, none, .q (.nc (.t 41)), []⟩,
 ⟨some 44, none, .q (.fa 1 (.t 43)), []⟩,
 ⟨none, none, .e (.store 1 (.t 44) (.t 42)), []⟩]
def c23_11 : ACode := .ops [
 ⟨some 45, none, .q (.mv (.t 5)), []⟩,
 ⟨some 46, none, .q (.mv (.t 0)), []⟩,
 ⟨some 47, none, .e (.call 30 [(.t 46), (.v (.int .i64 1)), (.v (.int .i64 2))]), []⟩,
 ⟨some 48, none, .e (.call 34 [(.t 45), (.t 47)]), []⟩,
 ⟨some 4, none, .q (.mv (.t 48)), []⟩]
def c23_12 : ACode := .seq c23_11 .ret
def c23_13 : ACode := .seq c23_10 c23_12
def c23_14 : ACode := .seq c23_9 c23_13
def c23_15 : ACode := .ops [
 ⟨some 50, none, .q (.bin .eql (.t 18) (.v (.str [84]))), []⟩,
 ⟨some 49, none, .q (.mv (.t 50)), []⟩]
def c23_16 : ACode := .ops [
 ⟨some 51, none, .q (.mv (.t 0)), []⟩,
 ⟨some 52, none, .q (.nc (.t 51)), []⟩,
 ⟨some 53, none, .q (.fa 0 (.t 52)), []⟩,
 ⟨some 54, none, .q (.ld none (.t 53)), []⟩,
 ⟨some 55, none, .q (.ia 4 (.t 54) (.v (.int .i64 0))), []⟩,
 ⟨some 56, none, .q (.ld (some 4) (.t 55)), []⟩,
 ⟨some 57, none, .e (.call 33 [(.t 56)]), []⟩,
 ⟨some 7, none, .q (.mv (.t 57)), []⟩]
def c23_17 : ACode := .ops [
 ⟨some 59, none, .q (.mv (.t 7)), []⟩,
 ⟨some 60, none, .e (.call 14 [(.t 59)]), []⟩,
 ⟨some 58, none, .q (.mv (.t 60)), []⟩,
 ⟨some 61, none, .q (.ext 0 (.t 58)), []⟩,
 ⟨some 62, none, .q (.ext 1 (.t 58)), []⟩,
 ⟨some 8, none, .q (.mv (.t 61)), []⟩,
 ⟨some 9, none, .q (.mv (.t 62)), []⟩]
def c23_18 : ACode := .ops [
 ⟨some 63, none, .q (.mv (.t 9)), []⟩,
 ⟨some 64, none, .q (.mv (.t 63)), []⟩,
 ⟨some 65, some (64, false), .q (.mv (.t 7)), []⟩,
 ⟨some 66, some (64, false), .e (.call 35 [(.t 65)]), []⟩,
 ⟨some 67, none, .q (.pick (.t 64) (.v (.bool true)) (.t 66)), []⟩]
def c23_19 : ACode := .ops [
 ⟨some 68, none, .q (.mv (.t 7)), []⟩,
 ⟨some 4, none, .q (.mv (.t 68)), []⟩]
def c23_20 : ACode := .seq c23_19 .ret
def c23_21 : ACode := .cond (.t 67) c23_20 .skip
def c23_22 : ACode := .seq c23_18 c23_21
def c23_23 : ACode := .seq c23_17 c23_22
def c23_24 : ACode := .ops [
 ⟨some 69, none, .q (.mki 30 (.v (.str []))), []⟩,
 ⟨some 4, none, .q (.mv (.t 69)), []⟩]
def c23_25 : ACode := .seq c23_24 .ret
def c23_26 : ACode := .seq c23_23 c23_25
def c23_27 : ACode := .seq c23_16 c23_26
def c23_28 : ACode := .cond (.t 49) c23_27 .skip
def c23_29 : ACode := .seq c23_15 c23_28
def c23_30 : ACode := .cond (.t 28) c23_14 c23_29
def c23_31 : ACode := .seq c23_8 c23_30
def c23_32 : ACode := .cond (.t 24) c23_7 c23_31
def c23_33 : ACode := .seq c23_5 c23_32
def c23_34 : ACode := .cond (.t 19) c23_4 c23_33
def c23_35 : ACode := .seq c23_2 c23_34
def c23_36 : ACode := .block 0 c23_35
def c23_37 : ACode := .seq c23_1 c23_36
def c23_38 : ACode := .ops [
 ⟨some 70, none, .q (.mv (.t 0)), []⟩,
 ⟨some 71, none, .e (.call 36 [(.t 70), (.v (.int .i64 0))]), []⟩,
 ⟨some 10, none, .q (.mv (.t 71)), []⟩]
def c23_39 : ACode := .ops [
 ⟨some 72, none, .q (.mv (.t 1)), []⟩]
def c23_40 : ACode := .ops [
 ⟨some 74, none, .q (.bin .eql (.t 72) (.v (.str [76, 69, 70, 84]))), []⟩,
 ⟨some 73, none, .q (.mv (.t 74)), []⟩]
def c23_41 : ACode := .ops [
 ⟨some 75, none, .q (.bin .eql (.t 72) (.v (.str [82, 73, 71, 72, 84]))), []⟩,
 ⟨some 73, none, .q (.mv (.t 75)), []⟩]
def c23_42 : ACode := .cond (.t 73) .skip c23_41
def c23_43 : ACode := .seq c23_40 c23_42
def c23_44 : ACode := .ops [
 ⟨some 76, none, .q (.mv (.t 1)), []⟩,
 ⟨some 77, none, .q (.mv (.t 10)), []⟩,
 ⟨some 78, none, .q (.mv (.t 0)), []⟩,
 ⟨some 79, none, .e (.call 30 [(.t 78), (.v (.int .i64 1)), (.v (.int .i64 1))]), []⟩,
 ⟨some 80, none, .e (.call 37 [(.t 76), (.t 77), (.t 79)]), []⟩,
 ⟨some 4, none, .q (.mv (.t 80)), []⟩]
def c23_45 : ACode := .seq c23_44 .ret
def c23_46 : ACode := .ops [
 ⟨some 82, none, .q (.bin .eql (.t 72) (.v (.str [77, 73, 68]))), []⟩,
 ⟨some 81, none, .q (.mv (.t 82)), []⟩]
def c23_47 : ACode := .ops [
 ⟨some 83, none, .q (.mv (.t 0)), []⟩,
 ⟨some 84, none, .e (.call 30 [(.t 83), (.v (.int .i64 1)), (.v (.int .i64 1))]), []⟩,
 ⟨some 85, none, .q (.mv (.t 0)), []⟩,
 ⟨some 86, none, .e (.call 30 [(.t 85), (.v (.int .i64 2)), (.v (.int .i64 1))]), []⟩,
 ⟨some 11, none, .q (.mv (.t 84)), []⟩,
 ⟨some 12, none, .q (.mv (.t 86)), []⟩]
def c23_48 : ACode := .ops [
 ⟨some 87, none, .q (.mv (.t 11)), []⟩,
 ⟨some 88, none, .q (.bin .lss (.t 87) (.v (.int .i64 1))), []⟩,
 ⟨some 89, none, .q (.mv (.t 88)), []⟩,
 ⟨some 90, some (89, false), .q (.mv (.t 12)), []⟩,
 ⟨some 91, some (89, false), .q (.bin .lss (.t 90) (.v (.int .i64 0))), []⟩,
 ⟨some 92, none, .q (.pick (.t 89) (.v (.bool true)) (.t 91)), []⟩]
def c23_49 : ACode := .ops [
 ⟨some 93, none, .q (.mki 39 (.v (.int .i64 3))), []⟩,
 ⟨some 4, none, .q (.mv (.t 93)), []⟩]
def c23_50 : ACode := .seq c23_49 .ret
def c23_51 : ACode := .cond (.t 92) c23_50 .skip
def c23_52 : ACode := .seq c23_48 c23_51
def c23_53 : ACode := .ops [
 ⟨some 94, none, .q (.mv (.t 10)), []⟩,
 ⟨some 95, none, .q (.mv (.t 11)), []⟩,
 ⟨some 96, none, .q (.bin .sub (.t 95) (.v (.int .i64 1))), []⟩,
 ⟨some 97, none, .q (.mv (.t 12)), []⟩,
 ⟨some 98, none, .e (.call 38 [(.t 94), (.t 96), (.t 97)]), []⟩,
 ⟨some 99, none, .q (.mki 30 (.t 98)), []⟩,
 ⟨some 4, none, .q (.mv (.t 99)), []⟩]
def c23_54 : ACode := .seq c23_53 .ret
def c23_55 : ACode := .seq c23_52 c23_54
def c23_56 : ACode := .seq c23_47 c23_55
def c23_57 : ACode := .ops [
 ⟨some 101, none, .q (.bin .eql (.t 72) (.v (.str [82, 69, 80, 84]))), []⟩,
 ⟨some 100, none, .q (.mv (.t 101)), []⟩]
def c23_58 : ACode := .ops [
 ⟨some 102, none, .q (.mv (.t 10)), []⟩,
 ⟨some 103, none, .q (.mv (.t 0)), []⟩,
 ⟨some 104, none, .e (.call 30 [(.t 103), (.v (.int .i64 1)), (.v (.int .i64 1))]), []⟩,
 ⟨some 105, none, .e (.call 39 [(.t 102), (.t 104)]), []⟩,
 ⟨some 4, none, .q (.mv (.t 105)), []⟩]
def c23_59 : ACode := .seq c23_58 .ret
def c23_60 : ACode := .ops [
 ⟨some 107, none, .q (.bin .eql (.t 72) (.v (.str [69, 88, 65, 67, 84]))), []⟩,
 ⟨some 106, none, .q (.mv (.t 107)), []⟩]
def c23_61 : ACode := .ops [
 ⟨some 108, none, .q (.mv (.t 10)), []⟩,
 ⟨some 109, none, .q (.mv (.t 0)), []⟩,
 ⟨some 110, none, .e (.call 36 [(.t 109), (.v (.int .i64 1))]), []⟩,
 ⟨some 111, none, .q (.bin .eql (.t 108) (.t 110)), []⟩,
 ⟨some 112, none, .q (.mki 66 (.t 111)), []⟩,
 ⟨some 4, none, .q (.mv (.t 112)), []⟩]
def c23_62 : ACode := .seq c23_61 .ret
def c23_63 : ACode := .ops [
 ⟨some 114, none, .q (.bin .eql (.t 72) (.v (.str [70, 73, 78, 68]))), []⟩,
 ⟨some 113, none, .q (.mv (.t 114)), []⟩]
def c23_64 : ACode := .ops [
 ⟨some 115, none, .q (.mv (.t 10)), []⟩,
 ⟨some 116, none, .q (.mv (.t 0)), []⟩,
 ⟨some 117, none, .e (.call 36 [(.t 116), (.v (.int .i64 1))]), []⟩,
 ⟨some 118, none, .q (.mv (.t 0)), []⟩,
 ⟨some 119, none, .e (.call 30 [(.t 118), (.v (.int .i64 2)), (.v (.int .i64 1))]), []⟩,
 ⟨some 120, none, .e (.call 40 [(.t 115), (.t 117), (.t 119)]), []⟩,
 ⟨some 4, none, .q (.mv (.t 120)), []⟩]
def c23_65 : ACode := .seq c23_64 .ret
def c23_66 : ACode := .ops [
 ⟨some 122, none, .q (.bin .eql (.t 72) (.v (.str [83, 69, 65, 82, 67, 72]))), []⟩,
 ⟨some 121, none, .q (.mv (.t 122)), []⟩]
def c23_67 : ACode := .ops [
 ⟨some 123, none, .q (.mv (.t 10)), []⟩,
 ⟨some 124, none, .e (.call 41 [(.t 123)]), []⟩,
 ⟨some 125, none, .q (.mv (.t 0)), []⟩,
 ⟨some 126, none, .e (.call 36 [(.t 125), (.v (.int .i64 1))]), []⟩,
 ⟨some 127, none, .e (.call 41 [(.t 126)]), []⟩,
 ⟨some 128, none, .q (.mv (.t 0)), []⟩,
 ⟨some 129, none, .e (.call 30 [(.t 128), (.v (.int .i64 2)), (.v (.int .i64 1))]), []⟩,
 ⟨some 130, none, .e (.call 40 [(.t 124), (.t 127), (.t 129)]), []⟩,
 ⟨some 4, none, .q (.mv (.t 130)), []⟩]
def c23_68 : ACode := .seq c23_67 .ret
def c23_69 : ACode := .ops [
 ⟨some 132, none, .q (.bin .eql (.t 72) (.v (.str [83, 85, 66, 83, 84, 73, 84, 85, 84, 69]))), []⟩,
 ⟨some 131, none, .q (.mv (.t 132)), []⟩]
def c23_70 : ACode := .ops [
 ⟨some 133, none, .q (.mv (.t 0)), []⟩,
 ⟨some 134, none, .e (.call 36 [(.t 133), (.v (.int .i64 1))]), []⟩,
 ⟨some 135, none, .q (.mv (.t 0)), []⟩,
 ⟨some 136, none, .e (.call 36 [(.t 135), (.v (.int .i64 2))]), []⟩,
 ⟨some 137, none, .q (.mv (.t 0)), []⟩,
 ⟨some 138, none, .e (.call 30 [(.t 137), (.v (.int .i64 3)), (.v (.int .i64 0))]), []⟩,
 ⟨some 13, none, .q (.mv (.t 134)), []⟩,
 ⟨some 14, none, .q (.mv (.t 136)), []⟩,
 ⟨some 15, none, .q (.mv (.t 138)), []⟩]
def c23_71 : ACode := .ops [
 ⟨some 139, none, .q (.mv (.t 0)), []⟩,
 ⟨some 140, none, .e (.call 42 [(.t 139), (.v (.int .i64 3))]), []⟩,
 ⟨some 141, none, .q (.mv (.t 140)), []⟩,
 ⟨some 142, some (141, true), .q (.mv (.t 15)), []⟩,
 ⟨some 143, some (141, true), .q (.bin .lss (.t 142) (.v (.int .i64 1))), []⟩,
 ⟨some 144, none, .q (.pick (.t 141) (.t 143) (.v (.bool false))), []⟩]
def c23_72 : ACode := .ops [
 ⟨some 145, none, .q (.mki 39 (.v (.int .i64 3))), []⟩,
 ⟨some 4, none, .q (.mv (.t 145)), []⟩]
def c23_73 : ACode := .seq c23_72 .ret
def c23_74 : ACode := .cond (.t 144) c23_73 .skip
def c23_75 : ACode := .seq c23_71 c23_74
def c23_76 : ACode := .ops [
 ⟨some 146, none, .q (.mv (.t 10)), []⟩,
 ⟨some 147, none, .q (.mv (.t 13)), []⟩,
 ⟨some 148, none, .q (.mv (.t 14)), []⟩,
 ⟨some 149, none, .q (.mv (.t 15)), []⟩,
 ⟨some 150, none, .e (.call 43 [(.t 146), (.t 147), (.t 148), (.t 149)]), []⟩,
 ⟨some 4, none, .q (.mv (.t 150)), []⟩]
def c23_77 : ACode := .seq c23_76 .ret
def c23_78 : ACode := .seq c23_75 c23_77
def c23_79 : ACode := .seq c23_70 c23_78
def c23_80 : ACode := .ops [
 ⟨some 152, none, .q (.bin .eql (.t 72) (.v (.str [82, 69, 80, 76, 65, 67, 69]))), []⟩,
 ⟨some 151, none, .q (.mv (.t 152)), []⟩]
def c23_81 : ACode := .ops [
 ⟨some 153, none, .q (.mv (.t 0)), []⟩,
 ⟨some 154, none, .e (.call 30 [(.t 153), (.v (.int .i64 1)), (.v (.int .i64 1))]), []⟩,
 ⟨some 155, none, .q (.mv (.t 0)), []⟩,
 ⟨some 156, none, .e (.call 30 [(.t 155), (.v (.int .i64 2)), (.v (.int .i64 1))]), []⟩,
 ⟨some 16, none, .q (.mv (.t 154)), []⟩,
 ⟨some 17, none, .q (.mv (.t 156)), []⟩]
def c23_82 : ACode := .ops [
 ⟨some 157, none, .q (.mv (.t 10)), []⟩,
 ⟨some 158, none, .q (.mv (.t 16)), []⟩,
 ⟨some 159, none, .q (.mv (.t 17)), []⟩,
 ⟨some 160, none, .q (.mv (.t 0)), []⟩,
 ⟨some 161, none, .e (.call 36 [(.t 160), (.v (.int .i64 3))]), []⟩,
 ⟨some 162, none, .e (.call 44 [(.t 157), (.t 158), (.t 159), (.t 161)]), []⟩,
 ⟨some 4, none, .q (.mv (.t 162)), []⟩]
def c23_83 : ACode := .seq c23_82 .ret
def c23_84 : ACode := .seq c23_81 c23_83
def c23_85 : ACode := .cond (.t 151) c23_84 .skip
def c23_86 : ACode := .seq c23_80 c23_85
def c23_87 : ACode := .cond (.t 131) c23_79 c23_86
def c23_88 : ACode := .seq c23_69 c23_87
def c23_89 : ACode := .cond (.t 121) c23_68 c23_88
def c23_90 : ACode := .seq c23_66 c23_89
def c23_91 : ACode := .cond (.t 113) c23_65 c23_90
def c23_92 : ACode := .seq c23_63 c23_91
def c23_93 : ACode := .cond (.t 106) c23_62 c23_92
def c23_94 : ACode := .seq c23_60 c23_93
def c23_95 : ACode := .cond (.t 100) c23_59 c23_94
def c23_96 : ACode := .seq c23_57 c23_95
def c23_97 : ACode := .cond (.t 81) c23_56 c23_96
def c23_98 : ACode := .seq c23_46 c23_97
def c23_99 : ACode := .cond (.t 73) c23_45 c23_98
def c23_100 : ACode := .seq c23_43 c23_99
def c23_101 : ACode := .block 1 c23_100
def c23_102 : ACode := .seq c23_39 c23_101
def c23_103 : ACode := .ops [
 ⟨some 163, none, .q (.mv (.t 1)), []⟩,
 ⟨some 164, none, .q (.mv (.t 10)), []⟩,
 ⟨some 165, none, .e (.call 45 [(.t 163), (.t 164)]), []⟩,
 ⟨some 4, none, .q (.mv (.t 165)), []⟩]
def c23_104 : ACode := .seq c23_103 .ret
def c23_105 : ACode := .seq c23_102 c23_104
def c23_106 : ACode := .seq c23_38 c23_105
def c23_107 : ACode := .seq c23_37 c23_106
def c23_108 : ACode := .seq c23_0 c23_107
@[go_sem] def c23_0_wp := wp_of c23_0.eq_1
@[go_sem] def c23_1_wp := wp_of c23_1.eq_1
@[go_sem] def c23_2_wp := wp_of c23_2.eq_1
@[go_sem] def c23_5_wp := wp_of c23_5.eq_1
@[go_sem] def c23_8_wp := wp_of c23_8.eq_1
@[go_sem] def c23_15_wp := wp_of c23_15.eq_1
@[go_sem] def c23_28_wp := wp_of c23_28.eq_1
@[go_sem] def c23_29_wp := wp_of c23_29.eq_1
@[go_sem] def c23_30_wp := wp_of c23_30.eq_1
@[go_sem] def c23_31_wp := wp_of c23_31.eq_1
@[go_sem] def c23_32_wp := wp_of c23_32.eq_1
@[go_sem] def c23_33_wp := wp_of c23_33.eq_1
@[go_sem] def c23_34_wp := wp_of c23_34.eq_1
@[go_sem] def c23_35_wp := wp_of c23_35.eq_1
@[go_sem] def c23_36_wp := wp_of c23_36.eq_1
@[go_sem] def c23_37_wp := wp_of c23_37.eq_1
@[go_sem] def c23_38_wp := wp_of c23_38.eq_1
@[go_sem] def c23_39_wp := wp_of c23_39.eq_1
@[go_sem] def c23_40_wp := wp_of c23_40.eq_1
@[go_sem] def c23_41_wp := wp_of c23_41.eq_1
@[go_sem] def c23_42_wp := wp_of c23_42.eq_1
@[go_sem] def c23_43_wp := wp_of c23_43.eq_1
@[go_sem] def c23_44_wp := wp_of c23_44.eq_1
@[go_sem] def c23_45_wp := wp_of c23_45.eq_1
@[go_sem] def c23_46_wp := wp_of c23_46.eq_1
@[go_sem] def c23_47_wp := wp_of c23_47.eq_1
@[go_sem] def c23_48_wp := wp_of c23_48.eq_1
@[go_sem] def c23_49_wp := wp_of c23_49.eq_1
@[go_sem] def c23_50_wp := wp_of c23_50.eq_1
@[go_sem] def c23_51_wp := wp_of c23_51.eq_1
@[go_sem] def c23_52_wp := wp_of c23_52.eq_1
@[go_sem] def c23_53_wp := wp_of c23_53.eq_1
@[go_sem] def c23_54_wp := wp_of c23_54.eq_1
@[go_sem] def c23_55_wp := wp_of c23_55.eq_1
@[go_sem] def c23_56_wp := wp_of c23_56.eq_1
@[go_sem] def c23_57_wp := wp_of c23_57.eq_1
@[go_sem] def c23_60_wp := wp_of c23_60.eq_1
@[go_sem] def c23_63_wp := wp_of c23_63.eq_1
@[go_sem] def c23_66_wp := wp_of c23_66.eq_1
@[go_sem] def c23_69_wp := wp_of c23_69.eq_1
@[go_sem] def c23_80_wp := wp_of c23_80.eq_1
@[go_sem] def c23_81_wp := wp_of c23_81.eq_1
@[go_sem] def c23_82_wp := wp_of c23_82.eq_1
@[go_sem] def c23_83_wp := wp_of c23_83.eq_1
@[go_sem] def c23_84_wp := wp_of c23_84.eq_1
@[go_sem] def c23_85_wp := wp_of c23_85.eq_1
@[go_sem] def c23_86_wp := wp_of c23_86.eq_1
@[go_sem] def c23_87_wp := wp_of c23_87.eq_1
@[go_sem] def c23_88_wp := wp_of c23_88.eq_1
@[go_sem] def c23_89_wp := wp_of c23_89.eq_1
@[go_sem] def c23_90_wp := wp_of c23_90.eq_1
@[go_sem] def c23_91_wp := wp_of c23_91.eq_1
@[go_sem] def c23_92_wp := wp_of c23_92.eq_1
@[go_sem] def c23_93_wp := wp_of c23_93.eq_1
@[go_sem] def c23_94_wp := wp_of c23_94.eq_1
@[go_sem] def c23_95_wp := wp_of c23_95.eq_1
@[go_sem] def c23_96_wp := wp_of c23_96.eq_1
@[go_sem] def c23_97_wp := wp_of c23_97.eq_1
@[go_sem] def c23_98_wp := wp_of c23_98.eq_1
@[go_sem] def c23_99_wp := wp_of c23_99.eq_1
@[go_sem] def c23_100_wp := wp_of c23_100.eq_1
@[go_sem] def c23_101_wp := wp_of c23_101.eq_1
@[go_sem] def c23_102_wp := wp_of c23_102.eq_1
@[go_sem] def c23_103_wp := wp_of c23_103.eq_1
@[go_sem] def c23_104_wp := wp_of c23_104.eq_1
@[go_sem] def c23_105_wp := wp_of c23_105.eq_1
@[go_sem] def c23_106_wp := wp_of c23_106.eq_1
@[go_sem] def c23_107_wp := wp_of c23_107.eq_1
@[go_sem] def c23_108_wp := wp_of c23_108.eq_1
def c23 : AFn := ⟨166, [.t 4], c23_108⟩
theorem c23_ok : compF Tryz.prog Tryz.f23 = some c23 := by kernel_rfl
theorem a23 {args : List AV} {σ : ASt} {R : AV → ASt → Prop} (hl : args.length ≤ 166) (h : c23_108.wp Tryz.prog (RetQ [.t 4] R) (init args) σ) : ACalls Tryz.prog 23 args σ R := acalls_of Tryz.func23 c23_ok hl h
/-! 45: tabular/texts.one -/
def c45_0 : ACode := .ops [
 ⟨some 4, none, .q (.mv (.v .nili)), []⟩]
def c45_1 : ACode := .ops [
 ⟨some 7, none, .q (.mv (.t 0)), []⟩]
def c45_2 : ACode := .ops [
 ⟨some 9, none, .q (.bin .eql (.t 7) (.v (.str [76, 69, 78]))), []⟩,
 ⟨some 8, none, .q (.mv (.t 9)), []⟩]
def c45_3 : ACode := .ops [
 ⟨some 10, none, .q (.mv (.t 1)), []⟩,
 ⟨some 11, none, .e (.call 59 [(.t 10)]), []⟩,
 ⟨some 12, none, .e (.call 20 [(.t 11)]), []⟩,
 ⟨some 13, none, .q (.ext 0 (.t 12)), []⟩,
 ⟨some 14, none, .q (.ext 1 (.t 12)), []⟩,
 ⟨some 15, none, .e (.call 62 [(.t 13), (.t 14)]), []⟩,
 ⟨some 4, none, .q (.mv (.t 15)), []⟩]
def c45_4 : ACode := .seq c45_3 .ret
def c45_5 : ACode := .ops [
 ⟨some 17, none, .q (.bin .eql (.t 7) (.v (.str [85, 80, 80, 69, 82]))), []⟩,
 ⟨some 16, none, .q (.mv (.t 17)), []⟩]
def c45_6 : ACode := .ops [
 ⟨some 18, none, .q (.mv (.t 1)), []⟩,
 ⟨some 19, none, .e (.call 41 [(.t 18)]), []⟩,
 ⟨some 20, none, .q (.mki 30 (.t 19)), []⟩,
 ⟨some 4, none, .q (.mv (.t 20)), []⟩]
def c45_7 : ACode := .seq c45_6 .ret
def c45_8 : ACode := .ops [
 ⟨some 22, none, .q (.bin .eql (.t 7) (.v (.str [76, 79, 87, 69, 82]))), []⟩,
 ⟨some 21, none, .q (.mv (.t 22)), []⟩]
def c45_9 : ACode := .ops [
 ⟨some 23, none, .q (.mv (.t 1)), []⟩,
 ⟨some 24, none, .e (.call 67 [(.t 23)]), []⟩,
 ⟨some 25, none, .q (.mki 30 (.t 24)), []⟩,
 ⟨some 4, none, .q (.mv (.t 25)), []⟩]
def c45_10 : ACode := .seq c45_9 .ret
def c45_11 : ACode := .ops [
 ⟨some 27, none, .q (.bin .eql (.t 7) (.v (.str [80, 82, 79, 80, 69, 82]))), []⟩,
 ⟨some 26, none, .q (.mv (.t 27)), []⟩]
def c45_12 : ACode := .ops [
 ⟨some 28, none, .q (.mv (.t 1)), []⟩,
 ⟨some 29, none, .e (.call 68 [(.t 28)]), []⟩,
 ⟨some 30, none, .q (.mki 30 (.t 29)), []⟩,
 ⟨some 4, none, .q (.mv (.t 30)), []⟩]
def c45_13 : ACode := .seq c45_12 .ret
def c45_14 : ACode := .ops [
 ⟨some 32, none, .q (.bin .eql (.t 7) (.v (.str [84, 82, 73, 77]))), []⟩,
 ⟨some 31, none, .q (.mv (.t 32)), []⟩]
def c45_15 : ACode := .ops [
 ⟨some 33, none, .q (.mv (.t 1)), []⟩,
 ⟨some 34, none, .e (.call 69 [(.t 33)]), []⟩,
 ⟨some 35, none, .q (.mki 30 (.t 34)), []⟩,
 ⟨some 4, none, .q (.mv (.t 35)), []⟩]
def c45_16 : ACode := .seq c45_15 .ret
def c45_17 : ACode := .ops [
 ⟨some 37, none, .q (.bin .eql (.t 7) (.v (.str [67, 79, 68, 69]))), []⟩,
 ⟨some 36, none, .q (.mv (.t 37)), []⟩]
def c45_18 : ACode := .ops [
 ⟨some 38, none, .q (.mv (.t 1)), []⟩,
 ⟨some 39, none, .e (.call 70 [(.t 38)]), []⟩,
 ⟨some 4, none, .q (.mv (.t 39)), []⟩]
def c45_19 : ACode := .seq c45_18 .ret
def c45_20 : ACode := .ops [
 ⟨some 41, none, .q (.bin .eql (.t 7) (.v (.str [82, 69, 86, 69, 82, 83, 69]))), []⟩,
 ⟨some 40, none, .q (.mv (.t 41)), []⟩]
def c45_21 : ACode := .ops [
 ⟨some 42, none, .q (.mv (.t 1)), []⟩,
 ⟨some 43, none, .e (.call 71 [(.t 42)]), []⟩,
 ⟨some 44, none, .q (.mki 30 (.t 43)), []⟩,
 ⟨some 4, none, .q (.mv (.t 44)), []⟩]
def c45_22 : ACode := .seq c45_21 .ret
def c45_23 : ACode := .cond (.t 40) c45_22 .skip
def c45_24 : ACode := .seq c45_20 c45_23
def c45_25 : ACode := .cond (.t 36) c45_19 c45_24
def c45_26 : ACode := .seq c45_17 c45_25
def c45_27 : ACode := .cond (.t 31) c45_16 c45_26
def c45_28 : ACode := .seq c45_14 c45_27
def c45_29 : ACode := .cond (.t 26) c45_13 c45_28
def c45_30 : ACode := .seq c45_11 c45_29
def c45_31 : ACode := .cond (.t 21) c45_10 c45_30
def c45_32 : ACode := .seq c45_8 c45_31
def c45_33 : ACode := .cond (.t 16) c45_7 c45_32
def c45_34 : ACode := .seq c45_5 c45_33
def c45_35 : ACode := .cond (.t 8) c45_4 c45_34
def c45_36 : ACode := .seq c45_2 c45_35
def c45_37 : ACode := .block 0 c45_36
def c45_38 : ACode := .seq c45_1 c45_37
def c45_39 : ACode := .ops [
 ⟨some 46, none, .q (.mv (.t 1)), []⟩,
 ⟨some 47, none, .q (.mki 30 (.t 46)), []⟩,
 ⟨some 48, none, .e (.call 32 [(.t 47)]), []⟩,
 ⟨some 45, none, .q (.mv (.t 48)), []⟩,
 ⟨some 49, none, .q (.ext 0 (.t 45)), []⟩,
 ⟨some 50, none, .q (.ext 1 (.t 45)), []⟩,
 ⟨some 5, none, .q (.mv (.t 49)), []⟩,
 ⟨some 6, none, .q (.mv (.t 50)), []⟩]
def c45_40 : ACode := .ops [
 ⟨some 51, none, .q (.mv (.t 6)), []⟩,
 ⟨some 52, none, .q (.bin .neq (.t 51) (.v (.int .i64 0))), []⟩]
def c45_41 : ACode := .ops [
 ⟨some 53, none, .q (.mv (.t 6)), []⟩,
 ⟨some 54, none, .q (.mki 39 (.t 53)), []⟩,
 ⟨some 4, none, .q (.mv (.t 54)), []⟩]
def c45_42 : ACode := .seq c45_41 .ret
def c45_43 : ACode := .cond (.t 52) c45_42 .skip
def c45_44 : ACode := .seq c45_40 c45_43
def c45_45 : ACode := .ops [
 ⟨some 55, none, .q (.mv (.t 5)), []⟩,
 ⟨some 56, none, .q (.mki 56 (.t 55)), []⟩,
 ⟨some 4, none, .q (.mv (.t 56)), []⟩]
def c45_46 : ACode := .seq c45_45 .ret
def c45_47 : ACode := .seq c45_44 c45_46
def c45_48 : ACode := .seq c45_39 c45_47
def c45_49 : ACode := .seq c45_38 c45_48
def c45_50 : ACode := .seq c45_0 c45_49
@[go_sem] def c45_0_wp := wp_of c45_0.eq_1
@[go_sem] def c45_1_wp := wp_of c45_1.eq_1
@[go_sem] def c45_2_wp := wp_of c45_2.eq_1
@[go_sem] def c45_3_wp := wp_of c45_3.eq_1
@[go_sem] def c45_4_wp := wp_of c45_4.eq_1
@[go_sem] def c45_5_wp := wp_of c45_5.eq_1
@[go_sem] def c45_8_wp := wp_of c45_8.eq_1
@[go_sem] def c45_11_wp := wp_of c45_11.eq_1
@[go_sem] def c45_12_wp := wp_of c45_12.eq_1
@[go_sem] def c45_13_wp := wp_of c45_13.eq_1
@[go_sem] def c45_29_wp := wp_of c45_29.eq_1
@[go_sem] def c45_30_wp := wp_of c45_30.eq_1
@[go_sem] def c45_31_wp := wp_of c45_31.eq_1
@[go_sem] def c45_32_wp := wp_of c45_32.eq_1
@[go_sem] def c45_33_wp := wp_of c45_33.eq_1
@[go_sem] def c45_34_wp := wp_of c45_34.eq_1
@[go_sem] def c45_35_wp := wp_of c45_35.eq_1
@[go_sem] def c45_36_wp := wp_of c45_36.eq_1
@[go_sem] def c45_37_wp := wp_of c45_37.eq_1
@[go_sem] def c45_38_wp := wp_of c45_38.eq_1
@[go_sem] def c45_49_wp := wp_of c45_49.eq_1
@[go_sem] def c45_50_wp := wp_of c45_50.eq_1
def c45 : AFn := ⟨57, [.t 4], c45_50⟩
theorem c45_ok : compF Tryz.prog Tryz.f45 = some c45 := by kernel_rfl
theorem a45 {args : List AV} {σ : ASt} {R : AV → ASt → Prop} (hl : args.length ≤ 57) (h : c45_50.wp Tryz.prog (RetQ [.t 4] R) (init args) σ) : ACalls Tryz.prog 45 args σ R := acalls_of Tryz.func45 c45_ok hl h
end Go.A
namespace Go.A
open Go.Proofs Go.Lib
theorem nes_LEN : ([76, 69, 78] : List UInt8) ≠ [85, 80, 80, 69, 82] ∧ ([76, 69, 78] : List UInt8) ≠ [76, 79, 87, 69, 82] ∧ ([76, 69, 78] : List UInt8) ≠ [80, 82, 79, 80, 69, 82] ∧ ([76, 69, 78] : List UInt8) ≠ [84, 82, 73, 77] ∧ ([76, 69, 78] : List UInt8) ≠ [86, 65, 76, 85, 69] ∧ ([76, 69, 78] : List UInt8) ≠ [67, 72, 65, 82] ∧ ([76, 69, 78] : List UInt8) ≠ [67, 79, 68, 69] ∧ ([76, 69, 78] : List UInt8) ≠ [84] ∧ ([76, 69, 78] : List UInt8) ≠ [82, 69, 86, 69, 82, 83, 69] ∧ ([76, 69, 78] : List UInt8) ≠ [76, 69, 70, 84] ∧ ([76, 69, 78] : List UInt8) ≠ [82, 73, 71, 72, 84] ∧ ([76, 69, 78] : List UInt8) ≠ [70, 73, 88, 69, 68] ∧ ([76, 69, 78] : List UInt8) ≠ [82, 69, 80, 84] ∧ ([76, 69, 78] : List UInt8) ≠ [69, 88, 65, 67, 84] ∧ ([76, 69, 78] : List UInt8) ≠ [70, 73, 78, 68] ∧ ([76, 69, 78] : List UInt8) ≠ [83, 69, 65, 82, 67, 72] ∧ ([76, 69, 78] : List UInt8) ≠ [77, 73, 68] ∧ ([76, 69, 78] : List UInt8) ≠ [83, 85, 66, 83, 84, 73, 84, 85, 84, 69] ∧ ([76, 69, 78] : List UInt8) ≠ [82, 69, 80, 76, 65, 67, 69] ∧ ([76, 69, 78] : List UInt8) ≠ [67, 79, 78, 67, 65, 84] := by decide
theorem nes_PROPER : ([80, 82, 79, 80, 69, 82] : List UInt8) ≠ [76, 69, 78] ∧ ([80, 82, 79, 80, 69, 82] : List UInt8) ≠ [85, 80, 80, 69, 82] ∧ ([80, 82, 79, 80, 69, 82] : List UInt8) ≠ [76, 79, 87, 69, 82] ∧ ([80, 82, 79, 80, 69, 82] : List UInt8) ≠ [84, 82, 73, 77] ∧ ([80, 82, 79, 80, 69, 82] : List UInt8) ≠ [86, 65, 76, 85, 69] ∧ ([80, 82, 79, 80, 69, 82] : List UInt8) ≠ [67, 72, 65, 82] ∧ ([80, 82, 79, 80, 69, 82] : List UInt8) ≠ [67, 79, 68, 69] ∧ ([80, 82, 79, 80, 69, 82] : List UInt8) ≠ [84] ∧ ([80, 82, 79, 80, 69, 82] : List UInt8) ≠ [82, 69, 86, 69, 82, 83, 69] ∧ ([80, 82, 79, 80, 69, 82] : List UInt8) ≠ [76, 69, 70, 84] ∧ ([80, 82, 79, 80, 69, 82] : List UInt8) ≠ [82, 73, 71, 72, 84] ∧ ([80, 82, 79, 80, 69, 82] : List UInt8) ≠ [70, 73, 88, 69, 68] ∧ ([80, 82, 79, 80, 69, 82] : List UInt8) ≠ [82, 69, 80, 84] ∧ ([80, 82, 79, 80, 69, 82] : List UInt8) ≠ [69, 88, 65, 67, 84] ∧ ([80, 82, 79, 80, 69, 82] : List UInt8) ≠ [70, 73, 78, 68] ∧ ([80, 82, 79, 80, 69, 82] : List UInt8) ≠ [83, 69, 65, 82, 67, 72] ∧ ([80, 82, 79, 80, 69, 82] : List UInt8) ≠ [77, 73, 68] ∧ ([80, 82, 79, 80, 69, 82] : List UInt8) ≠ [83, 85, 66, 83, 84, 73, 84, 85, 84, 69] ∧ ([80, 82, 79, 80, 69, 82] : List UInt8) ≠ [82, 69, 80, 76, 65, 67, 69] ∧ ([80, 82, 79, 80, 69, 82] : List UInt8) ≠ [67, 79, 78, 67, 65, 84] := by decide
theorem nes_LEFT : ([76, 69, 70, 84] : List UInt8) ≠ [76, 69, 78] ∧ ([76, 69, 70, 84] : List UInt8) ≠ [85, 80, 80, 69, 82] ∧ ([76, 69, 70, 84] : List UInt8) ≠ [76, 79, 87, 69, 82] ∧ ([76, 69, 70, 84] : List UInt8) ≠ [80, 82, 79, 80, 69, 82] ∧ ([76, 69, 70, 84] : List UInt8) ≠ [84, 82, 73, 77] ∧ ([76, 69, 70, 84] : List UInt8) ≠ [86, 65, 76, 85, 69] ∧ ([76, 69, 70, 84] : List UInt8) ≠ [67, 72, 65, 82] ∧ ([76, 69, 70, 84] : List UInt8) ≠ [67, 79, 68, 69] ∧ ([76, 69, 70, 84] : List UInt8) ≠ [84] ∧ ([76, 69, 70, 84] : List UInt8) ≠ [82, 69, 86, 69, 82, 83, 69] ∧ ([76, 69, 70, 84] : List UInt8) ≠ [82, 73, 71, 72, 84] ∧ ([76, 69, 70, 84] : List UInt8) ≠ [70, 73, 88, 69, 68] ∧ ([76, 69, 70, 84] : List UInt8) ≠ [82, 69, 80, 84] ∧ ([76, 69, 70, 84] : List UInt8) ≠ [69, 88, 65, 67, 84] ∧ ([76, 69, 70, 84] : List UInt8) ≠ [70, 73, 78, 68] ∧ ([76, 69, 70, 84] : List UInt8) ≠ [83, 69, 65, 82, 67, 72] ∧ ([76, 69, 70, 84] : List UInt8) ≠ [77, 73, 68] ∧ ([76, 69, 70, 84] : List UInt8) ≠ [83, 85, 66, 83, 84, 73, 84, 85, 84, 69] ∧ ([76, 69, 70, 84] : List UInt8) ≠ [82, 69, 80, 76, 65, 67, 69] ∧ ([76, 69, 70, 84] : List UInt8) ≠ [67, 79, 78, 67, 65, 84] := by decide
theorem nes_RIGHT : ([82, 73, 71, 72, 84] : List UInt8) ≠ [76, 69, 78] ∧ ([82, 73, 71, 72, 84] : List UInt8) ≠ [85, 80, 80, 69, 82] ∧ ([82, 73, 71, 72, 84] : List UInt8) ≠ [76, 79, 87, 69, 82] ∧ ([82, 73, 71, 72, 84] : List UInt8) ≠ [80, 82, 79, 80, 69, 82] ∧ ([82, 73, 71, 72, 84] : List UInt8) ≠ [84, 82, 73, 77] ∧ ([82, 73, 71, 72, 84] : List UInt8) ≠ [86, 65, 76, 85, 69] ∧ ([82, 73, 71, 72, 84] : List UInt8) ≠ [67, 72, 65, 82] ∧ ([82, 73, 71, 72, 84] : List UInt8) ≠ [67, 79, 68, 69] ∧ ([82, 73, 71, 72, 84] : List UInt8) ≠ [84] ∧ ([82, 73, 71, 72, 84] : List UInt8) ≠ [82, 69, 86, 69, 82, 83, 69] ∧ ([82, 73, 71, 72, 84] : List UInt8) ≠ [76, 69, 70, 84] ∧ ([82, 73, 71, 72, 84] : List UInt8) ≠ [70, 73, 88, 69, 68] ∧ ([82, 73, 71, 72, 84] : List UInt8) ≠ [82, 69, 80, 84] ∧ ([82, 73, 71, 72, 84] : List UInt8) ≠ [69, 88, 65, 67, 84] ∧ ([82, 73, 71, 72, 84] : List UInt8) ≠ [70, 73, 78, 68] ∧ ([82, 73, 71, 72, 84] : List UInt8) ≠ [83, 69, 65, 82, 67, 72] ∧ ([82, 73, 71, 72, 84] : List UInt8) ≠ [77, 73, 68] ∧ ([82, 73, 71, 72, 84] : List UInt8) ≠ [83, 85, 66, 83, 84, 73, 84, 85, 84, 69] ∧ ([82, 73, 71, 72, 84] : List UInt8) ≠ [82, 69, 80, 76, 65, 67, 69] ∧ ([82, 73, 71, 72, 84] : List UInt8) ≠ [67, 79, 78, 67, 65, 84] := by decide
theorem nes_MID : ([77, 73, 68] : List UInt8) ≠ [76, 69, 78] ∧ ([77, 73, 68] : List UInt8) ≠ [85, 80, 80, 69, 82] ∧ ([77, 73, 68] : List UInt8) ≠ [76, 79, 87, 69, 82] ∧ ([77, 73, 68] : List UInt8) ≠ [80, 82, 79, 80, 69, 82] ∧ ([77, 73, 68] : List UInt8) ≠ [84, 82, 73, 77] ∧ ([77, 73, 68] : List UInt8) ≠ [86, 65, 76, 85, 69] ∧ ([77, 73, 68] : List UInt8) ≠ [67, 72, 65, 82] ∧ ([77, 73, 68] : List UInt8) ≠ [67, 79, 68, 69] ∧ ([77, 73, 68] : List UInt8) ≠ [84] ∧ ([77, 73, 68] : List UInt8) ≠ [82, 69, 86, 69, 82, 83, 69] ∧ ([77, 73, 68] : List UInt8) ≠ [76, 69, 70, 84] ∧ ([77, 73, 68] : List UInt8) ≠ [82, 73, 71, 72, 84] ∧ ([77, 73, 68] : List UInt8) ≠ [70, 73, 88, 69, 68] ∧ ([77, 73, 68] : List UInt8) ≠ [82, 69, 80, 84] ∧ ([77, 73, 68] : List UInt8) ≠ [69, 88, 65, 67, 84] ∧ ([77, 73, 68] : List UInt8) ≠ [70, 73, 78, 68] ∧ ([77, 73, 68] : List UInt8) ≠ [83, 69, 65, 82, 67, 72] ∧ ([77, 73, 68] : List UInt8) ≠ [83, 85, 66, 83, 84, 73, 84, 85, 84, 69] ∧ ([77, 73, 68] : List UInt8) ≠ [82, 69, 80, 76, 65, 67, 69] ∧ ([77, 73, 68] : List UInt8) ≠ [67, 79, 78, 67, 65, 84] := by decide
theorem nes_REPLACE : ([82, 69, 80, 76, 65, 67, 69] : List UInt8) ≠ [76, 69, 78] ∧ ([82, 69, 80, 76, 65, 67, 69] : List UInt8) ≠ [85, 80, 80, 69, 82] ∧ ([82, 69, 80, 76, 65, 67, 69] : List UInt8) ≠ [76, 79, 87, 69, 82] ∧ ([82, 69, 80, 76, 65, 67, 69] : List UInt8) ≠ [80, 82, 79, 80, 69, 82] ∧ ([82, 69, 80, 76, 65, 67, 69] : List UInt8) ≠ [84, 82, 73, 77] ∧ ([82, 69, 80, 76, 65, 67, 69] : List UInt8) ≠ [86, 65, 76, 85, 69] ∧ ([82, 69, 80, 76, 65, 67, 69] : List UInt8) ≠ [67, 72, 65, 82] ∧ ([82, 69, 80, 76, 65, 67, 69] : List UInt8) ≠ [67, 79, 68, 69] ∧ ([82, 69, 80, 76, 65, 67, 69] : List UInt8) ≠ [84] ∧ ([82, 69, 80, 76, 65, 67, 69] : List UInt8) ≠ [82, 69, 86, 69, 82, 83, 69] ∧ ([82, 69, 80, 76, 65, 67, 69] : List UInt8) ≠ [76, 69, 70, 84] ∧ ([82, 69, 80, 76, 65, 67, 69] : List UInt8) ≠ [82, 73, 71, 72, 84] ∧ ([82, 69, 80, 76, 65, 67, 69] : List UInt8) ≠ [70, 73, 88, 69, 68] ∧ ([82, 69, 80, 76, 65, 67, 69] : List UInt8) ≠ [82, 69, 80, 84] ∧ ([82, 69, 80, 76, 65, 67, 69] : List UInt8) ≠ [69, 88, 65, 67, 84] ∧ ([82, 69, 80, 76, 65, 67, 69] : List UInt8) ≠ [70, 73, 78, 68] ∧ ([82, 69, 80, 76, 65, 67, 69] : List UInt8) ≠ [83, 69, 65, 82, 67, 72] ∧ ([82, 69, 80, 76, 65, 67, 69] : List UInt8) ≠ [77, 73, 68] ∧ ([82, 69, 80, 76, 65, 67, 69] : List UInt8) ≠ [83, 85, 66, 83, 84, 73, 84, 85, 84, 69] ∧ ([82, 69, 80, 76, 65, 67, 69] : List UInt8) ≠ [67, 79, 78, 67, 65, 84] := by decide
theorem xone_LEN (s : List UInt8) (hs : s.length ≤ 200000) : Pure Tryz.prog 45 [.str nLEN, .str s] (cntP (intP (pcs s).length)).av := by
 intro σ
 have hl := pcs_len s
 have h1 := xcount_ok s (by omega)
 have h2 := int_ok ((pcs s).length : Int) (by omega) (by omega)
 have h3 := counted_ok (intP ((pcs s).length : Int))
 generalize intP ((pcs s).length : Int) = o at *
 simp only [resAV] at h2
 generalize (cntP o).av = W at *
 unfold nLEN
 refine a45 (by simp) ?_
 simp (disch := first | assumption | omega) only [go_sem, reduceCtorEq, Nat.reduceEqDiff, ↓reduceIte]
 refine h1.use ?_
 simp (disch := first | assumption | omega) only [go_sem, ↓reduceIte]
 refine h2.use ?_
 simp (disch := first | assumption | omega) only [go_sem, Nat.reduceEqDiff, ↓reduceIte]
 refine h3.use ?_
 simp (disch := first | assumption | omega) only [go_sem, ↓reduceIte]
 exact retC_by (.refl _) (.refl _) ⟨rfl, rfl⟩
theorem xone_PROPER (s : List UInt8) (hs : s.length ≤ 200000) : Pure Tryz.prog 45 [.str nPROPER, .str s] (PV.text (propP s)).av := by
 intro σ
 have h1 := xproper_ok s hs
 simp only [PV.av]
 unfold nPROPER
 refine a45 (by simp) ?_
 simp (disch := first | assumption | omega) only [go_sem, reduceCtorEq, Nat.reduceEqDiff, ↓reduceIte, nes_PROPER]
 refine h1.use ?_
 simp (disch := first | assumption | omega) only [go_sem, ↓reduceIte]
 exact retC_by (.refl _) (.refl _) ⟨rfl, rfl⟩
theorem rc_LEN {τ : ASt} {b : Nat} (hT : Tab τ) (s : List UInt8) (hs : s.length ≤ 200000) (hb : τ b = rdO [.text s] 0) :
  ACalls Tryz.prog 23 [.ptr b 0, .str nLEN] τ fun v σ' => v = (cntP (intP (pcs s).length)).av ∧ σ' = τ.set b (rdO [.text s] 0) := by
 have h0 := xrtext_ok hT hb 0 rfl (v := .text s) trivial
 have h1 := xone_LEN s hs
 rw [show ((0 : Nat) : Int) = 0 from rfl] at h0
 simp only [asTextP, seen] at h0
 generalize (cntP (intP (pcs s).length)).av = W at *
 unfold nLEN at *
 refine a23 (by simp) ?_
 simp (disch := first | assumption | omega) only [go_sem, reduceCtorEq, Nat.reduceEqDiff, ↓reduceIte, nes_LEN]
 refine h0.mono ?_
 rintro v σ' ⟨rfl, rfl⟩
 simp (disch := first | assumption | omega) only [go_sem, Nat.reduceEqDiff, ↓reduceIte, nes_LEN]
 refine h1.use ?_
 simp (disch := first | assumption | omega) only [go_sem, ↓reduceIte]
 exact retC_by (.refl _) (.refl _) ⟨rfl, rfl⟩
theorem rc_PROPER {τ : ASt} {b : Nat} (hT : Tab τ) (s : List UInt8) (hs : s.length ≤ 200000) (hb : τ b = rdO [.text s] 0) :
  ACalls Tryz.prog 23 [.ptr b 0, .str nPROPER] τ fun v σ' => v = (PV.text (propP s)).av ∧ σ' = τ.set b (rdO [.text s] 0) := by
 have h0 := xrtext_ok hT hb 0 rfl (v := .text s) trivial
 have h1 := xone_PROPER s hs
 rw [show ((0 : Nat) : Int) = 0 from rfl] at h0
 simp only [asTextP, seen] at h0
 generalize (PV.text (propP s)).av = W at *
 unfold nPROPER at *
 refine a23 (by simp) ?_
 simp (disch := first | assumption | omega) only [go_sem, reduceCtorEq, Nat.reduceEqDiff, ↓reduceIte, nes_PROPER]
 refine h0.mono ?_
 rintro v σ' ⟨rfl, rfl⟩
 simp (disch := first | assumption | omega) only [go_sem, Nat.reduceEqDiff, ↓reduceIte, nes_PROPER]
 refine h1.use ?_
 simp (disch := first | assumption | omega) only [go_sem, ↓reduceIte]
 exact retC_by (.refl _) (.refl _) ⟨rfl, rfl⟩
theorem rc_LEFT {τ : ASt} {b : Nat} (hT : Tab τ) (s : List UInt8) (v : PV) (hs : s.length ≤ 200000) (hb : τ b = rdO [.text s, v] 0) (hg : v.good) (hsm : v.small) :
  ACalls Tryz.prog 23 [.ptr b 0, .str nLEFT] τ fun r σ' => r = (sidesP nLEFT s (clampP (asIntV v).1)).av ∧ σ' = τ.set b (rdO [.text s, v] (seen 0 (asIntV v).2)) := by
 have h0 := xrtext_ok hT hb 0 rfl (v := .text s) trivial
 have h1 := xrint_ok (σ := τ.set b (rdO [.text s, v] 0)) (ASt.set_same _ _ _) 1 1 rfl hg hsm
 have hc : clampP (asIntV v).1 ≤ 2000000 := by unfold clampP; omega
 have h2 := xsides_ok nLEFT s (clampP (asIntV v).1) (by omega) (by omega)
 rw [show ((0 : Nat) : Int) = 0 from rfl] at h0
 rw [show ((1 : Nat) : Int) = 1 from rfl] at h1
 simp only [asTextP, seen] at h0
 generalize (sidesP nLEFT s (clampP (asIntV v).1)).av = W at *
 unfold nLEFT at *
 refine a23 (by simp) ?_
 simp (disch := first | assumption | omega) only [go_sem, reduceCtorEq, Nat.reduceEqDiff, ↓reduceIte, nes_LEFT]
 refine h0.mono ?_
 rintro r σ' ⟨rfl, rfl⟩
 simp (disch := first | assumption | omega) only [go_sem, reduceCtorEq, Nat.reduceEqDiff, ↓reduceIte]
 refine h1.mono ?_
 rintro r σ' ⟨rfl, rfl⟩
 simp (disch := first | assumption | omega) only [go_sem, Nat.reduceEqDiff, ↓reduceIte]
 refine h2.use ?_
 simp (disch := first | assumption | omega) only [go_sem, ↓reduceIte]
 exact retC_by (.refl _) (.refl _) ⟨rfl, rfl⟩
theorem rc_RIGHT {τ : ASt} {b : Nat} (hT : Tab τ) (s : List UInt8) (v : PV) (hs : s.length ≤ 200000) (hb : τ b = rdO [.text s, v] 0) (hg : v.good) (hsm : v.small) :
  ACalls Tryz.prog 23 [.ptr b 0, .str nRIGHT] τ fun r σ' => r = (sidesP nRIGHT s (clampP (asIntV v).1)).av ∧ σ' = τ.set b (rdO [.text s, v] (seen 0 (asIntV v).2)) := by
 have h0 := xrtext_ok hT hb 0 rfl (v := .text s) trivial
 have h1 := xrint_ok (σ := τ.set b (rdO [.text s, v] 0)) (ASt.set_same _ _ _) 1 1 rfl hg hsm
 have hc : clampP (asIntV v).1 ≤ 2000000 := by unfold clampP; omega
 have h2 := xsides_ok nRIGHT s (clampP (asIntV v).1) (by omega) (by omega)
 rw [show ((0 : Nat) : Int) = 0 from rfl] at h0
 rw [show ((1 : Nat) : Int) = 1 from rfl] at h1
 simp only [asTextP, seen] at h0
 generalize (sidesP nRIGHT s (clampP (asIntV v).1)).av = W at *
 unfold nRIGHT at *
 refine a23 (by simp) ?_
 simp (disch := first | assumption | omega) only [go_sem, reduceCtorEq, Nat.reduceEqDiff, ↓reduceIte, nes_RIGHT]
 refine h0.mono ?_
 rintro r σ' ⟨rfl, rfl⟩
 simp (disch := first | assumption | omega) only [go_sem, reduceCtorEq, Nat.reduceEqDiff, ↓reduceIte, nes_RIGHT]
 refine h1.mono ?_
 rintro r σ' ⟨rfl, rfl⟩
 simp (disch := first | assumption | omega) only [go_sem, Nat.reduceEqDiff, ↓reduceIte]
 refine h2.use ?_
 simp (disch := first | assumption | omega) only [go_sem, ↓reduceIte]
 exact retC_by (.refl _) (.refl _) ⟨rfl, rfl⟩
def midP (s : List UInt8) (f n : Int) : PV := if f < 1 ∨ n < 0 then .fail 3 else .text (partP s (f - 1) n)
theorem rc_MID {τ : ASt} {b : Nat} (hT : Tab τ) (s : List UInt8) (v w : PV) (hs : s.length ≤ 200000) (hb : τ b = rdO [.text s, v, w] 0) (hg : v.good) (hsm : v.small) (hgw : w.good) (hsw : w.small) :
  ACalls Tryz.prog 23 [.ptr b 0, .str nMID] τ fun r σ' => r = (midP s (clampP (asIntV v).1) (clampP (asIntV w).1)).av ∧ σ' = τ.set b (rdO [.text s, v, w] (seen (seen 0 (asIntV v).2) (asIntV w).2)) := by
 have h0 := xrtext_ok hT hb 0 rfl (v := .text s) trivial
 have h1 := xrint_ok (σ := τ.set b (rdO [.text s, v, w] 0)) (ASt.set_same _ _ _) 1 1 rfl hg hsm
 have h2 := xrint_ok (σ := τ.set b (rdO [.text s, v, w] (seen 0 (asIntV v).2))) (ASt.set_same _ _ _) 2 1 rfl hgw hsw
 have hc : -2000000 ≤ clampP (asIntV v).1 ∧ clampP (asIntV v).1 ≤ 2000000 := by unfold clampP; omega
 have h3 := xpart_ok s (clampP (asIntV v).1 - 1) (clampP (asIntV w).1) (by omega)
 rw [show ((0 : Nat) : Int) = 0 from rfl] at h0
 rw [show ((1 : Nat) : Int) = 1 from rfl] at h1
 rw [show ((2 : Nat) : Int) = 2 from rfl] at h2
 simp only [asTextP] at h0
 rw [show seen 0 0 = 0 from rfl] at h0
 obtain ⟨R, hR⟩ : ∃ R, midP s (clampP (asIntV v).1) (clampP (asIntV w).1) = R := ⟨_, rfl⟩
 rw [hR]
 unfold midP at hR
 generalize clampP (asIntV v).1 = A at *
 generalize clampP (asIntV w).1 = B at *
 unfold nMID at *
 refine a23 (by simp) ?_
 simp (disch := first | assumption | omega) only [go_sem, reduceCtorEq, Nat.reduceEqDiff, ↓reduceIte, nes_MID]
 refine h0.mono ?_
 rintro r σ' ⟨rfl, rfl⟩
 simp (disch := first | assumption | omega) only [go_sem, reduceCtorEq, Nat.reduceEqDiff, ↓reduceIte, nes_MID]
 refine h1.mono ?_
 rintro r σ' ⟨rfl, rfl⟩
 simp (disch := first | assumption | omega) only [go_sem, reduceCtorEq, ↓reduceIte, ASt.set_set]
 refine h2.mono ?_
 rintro r σ' ⟨rfl, rfl⟩
 by_cases c1 : A < 1
 ·rw [if_pos (.inl c1)] at hR
  subst hR
  simp only [PV.av]
  simp (disch := first | assumption | omega) only [go_sem, Nat.reduceEqDiff, ↓reduceIte, c1, ASt.set_set]
  exact retC_by (.refl _) (.refl _) ⟨rfl, rfl⟩
 by_cases c2 : B < 0
 ·rw [if_pos (.inr c2)] at hR
  subst hR
  simp only [PV.av]
  simp (disch := first | assumption | omega) only [go_sem, Nat.reduceEqDiff, ↓reduceIte, c1, c2, ASt.set_set]
  exact retC_by (.refl _) (.refl _) ⟨rfl, rfl⟩
 rw [if_neg (by omega)] at hR
 subst hR
 simp only [PV.av]
 simp (disch := first | assumption | omega) only [go_sem, Nat.reduceEqDiff, ↓reduceIte, c1, c2]
 refine h3.use ?_
 simp (disch := first | assumption | omega) only [go_sem, ↓reduceIte]
 exact retC_by (.refl _) (.refl _) ⟨rfl, rfl⟩
theorem rc_REPLACE {τ : ASt} {b : Nat} (hT : Tab τ) (s t : List UInt8) (v w : PV) (hs : s.length ≤ 200000) (ht : t.length ≤ 200000) (hb : τ b = rdO [.text s, v, w, .text t] 0) (hg : v.good) (hsm : v.small) (hgw : w.good) (hsw : w.small) :
  ACalls Tryz.prog 23 [.ptr b 0, .str nREPLACE] τ fun r σ' => r = (replP s (clampP (asIntV v).1) (clampP (asIntV w).1) t).av ∧ σ' = τ.set b (rdO [.text s, v, w, .text t] (seen (seen (seen 0 (asIntV v).2) (asIntV w).2) 0)) := by
 have hTb : ∀ r : Option Role, Tab (τ.set b r) := fun r => by
  unfold Tab at hT ⊢
  rw [ASt.set_ne]
  ·exact hT
  ·intro e; rw [← e, hT] at hb; unfold rdO at hb; injection hb with hb; cases hb
 have h0 := xrtext_ok hT hb 0 rfl (v := .text s) trivial
 have h1 := xrint_ok (σ := τ.set b (rdO [.text s, v, w, .text t] 0)) (ASt.set_same _ _ _) 1 1 rfl hg hsm
 have h2 := xrint_ok (σ := τ.set b (rdO [.text s, v, w, .text t] (seen 0 (asIntV v).2))) (ASt.set_same _ _ _) 2 1 rfl hgw hsw
 have h4 := xrtext_ok (σ := τ.set b (rdO [.text s, v, w, .text t] (seen (seen 0 (asIntV v).2) (asIntV w).2))) (hTb _) (ASt.set_same _ _ _) 3 rfl (v := .text t) trivial
 have hc : -2000000 ≤ clampP (asIntV v).1 ∧ clampP (asIntV v).1 ≤ 2000000 := by unfold clampP; omega
 have h3 := xrepl_ok s (clampP (asIntV v).1) (clampP (asIntV w).1) t (by omega) (by omega) (by omega)
 rw [show ((0 : Nat) : Int) = 0 from rfl] at h0
 rw [show ((1 : Nat) : Int) = 1 from rfl] at h1
 rw [show ((2 : Nat) : Int) = 2 from rfl] at h2
 rw [show ((3 : Nat) : Int) = 3 from rfl] at h4
 simp only [asTextP] at h0 h4
 rw [show seen 0 0 = 0 from rfl] at h0
 generalize (replP s (clampP (asIntV v).1) (clampP (asIntV w).1) t).av = W at *
 generalize clampP (asIntV v).1 = A at *
 generalize clampP (asIntV w).1 = B at *
 unfold nREPLACE at *
 refine a23 (by simp) ?_
 simp (disch := first | assumption | omega) only [go_sem, reduceCtorEq, Nat.reduceEqDiff, ↓reduceIte, nes_REPLACE]
 refine h0.mono ?_
 rintro r σ' ⟨rfl, rfl⟩
 simp (disch := first | assumption | omega) only [go_sem, reduceCtorEq, Nat.reduceEqDiff, ↓reduceIte, nes_REPLACE]
 refine h1.mono ?_
 rintro r σ' ⟨rfl, rfl⟩
 simp (disch := first | assumption | omega) only [go_sem, reduceCtorEq, ↓reduceIte, ASt.set_set]
 refine h2.mono ?_
 rintro r σ' ⟨rfl, rfl⟩
 simp (disch := first | assumption | omega) only [go_sem, reduceCtorEq, Nat.reduceEqDiff, ↓reduceIte, ASt.set_set]
 refine h4.mono ?_
 rintro r σ' ⟨rfl, rfl⟩
 simp (disch := first | assumption | omega) only [go_sem, Nat.reduceEqDiff, ↓reduceIte]
 refine h3.use ?_
 simp (disch := first | assumption | omega) only [go_sem, ↓reduceIte]
 exact retC_by (.refl _) (.refl _) ⟨rfl, rfl⟩
end Go.A
namespace Go.A
open Go.Proofs
/-! 9: tabular/tabularlaw17.call -/
def c9_0 : ACode := .ops [
 ⟨some 6, none, .q (.mv (.v (.str []))), []⟩]
def c9_1 : ACode := .ops [
 ⟨some 10, none, .q (.mv (.t 1)), []⟩,
 ⟨some 11, none, .q (.mki 30 (.t 10)), []⟩,
 ⟨some 12, none, .e (.call 13 [(.t 11)]), []⟩,
 ⟨some 13, none, .q (.bsl 4 [(.t 12)]), []⟩,
 ⟨some 7, none, .q (.mv (.t 13)), []⟩]
def c9_2 : ACode := .ops [
 ⟨some 14, none, .q (.mv (.t 2)), []⟩,
 ⟨some 15, none, .q (.len (.t 14)), []⟩,
 ⟨some 16, none, .q (.mv (.v (.int .i64 0))), []⟩]
def c9_3 : ACode := .ops [
 ⟨some 17, none, .q (.bin .lss (.t 16) (.t 15)), []⟩]
def c9_4 : ACode := .cond (.t 17) .skip (.exit 0)
def c9_5 : ACode := .ops [
 ⟨some 18, none, .q (.ia 1 (.t 14) (.t 16)), []⟩,
 ⟨some 19, none, .q (.ld none (.t 18)), []⟩,
 ⟨some 9, none, .q (.mv (.t 19)), []⟩]
def c9_6 : ACode := .ops [
 ⟨some 20, none, .q (.mv (.t 7)), []⟩,
 ⟨some 21, none, .q (.mv (.t 9)), []⟩,
 ⟨some 22, none, .e (.call 13 [(.t 21)]), []⟩,
 ⟨some 23, none, .q (.bsl 4 [(.t 22)]), []⟩,
 ⟨some 24, none, .e (.app 36 4 48 [(.int .i64 0), (.int .i64 0), (.bool false), (.sl .full [])] (.t 20) (.t 23)), []⟩,
 ⟨some 7, none, .q (.mv (.t 24)), []⟩]
def c9_7 : ACode := .seq c9_5 c9_6
def c9_8 : ACode := .block 1 c9_7
def c9_9 : ACode := .ops [
 ⟨some 25, none, .q (.bin .add (.t 16) (.v (.int .i64 1))), []⟩,
 ⟨some 16, none, .q (.mv (.t 25)), []⟩]
def c9_10 : ACode := .seq c9_8 c9_9
def c9_11 : ACode := .seq c9_4 c9_10
def c9_12 : ACode := .seq c9_3 c9_11
def c9_13 : ACode := .loop c9_12
def c9_14 : ACode := .block 0 c9_13
def c9_15 : ACode := .seq c9_2 c9_14
def c9_16 : ACode := .ops [
 ⟨some 26, none, .q (.mv (.t 0)), []⟩,
 ⟨some 27, none, .q (.mv (.t 7)), []⟩,
 ⟨some 28, none, .e (.call 12 [(.t 26), (.t 27)]), []⟩,
 ⟨some 29, none, .e (.call 11 [(.t 28)]), []⟩,
 ⟨some 6, none, .q (.mv (.t 29)), []⟩]
def c9_17 : ACode := .seq c9_16 .ret
def c9_18 : ACode := .seq c9_15 c9_17
def c9_19 : ACode := .seq c9_1 c9_18
def c9_20 : ACode := .seq c9_0 c9_19
@[go_sem] def c9_0_wp := wp_of c9_0.eq_1
@[go_sem] def c9_1_wp := wp_of c9_1.eq_1
@[go_sem] def c9_2_wp := wp_of c9_2.eq_1
@[go_sem] def c9_3_wp := wp_of c9_3.eq_1
@[go_sem] def c9_4_wp := wp_of c9_4.eq_1
@[go_sem] def c9_5_wp := wp_of c9_5.eq_1
@[go_sem] def c9_6_wp := wp_of c9_6.eq_1
@[go_sem] def c9_7_wp := wp_of c9_7.eq_1
@[go_sem] def c9_8_wp := wp_of c9_8.eq_1
@[go_sem] def c9_9_wp := wp_of c9_9.eq_1
@[go_sem] def c9_10_wp := wp_of c9_10.eq_1
@[go_sem] def c9_11_wp := wp_of c9_11.eq_1
@[go_sem] def c9_12_wp := wp_of c9_12.eq_1
@[go_sem] def c9_13_wp := wp_of c9_13.eq_1
@[go_sem] def c9_14_wp := wp_of c9_14.eq_1
@[go_sem] def c9_15_wp := wp_of c9_15.eq_1
@[go_sem] def c9_16_wp := wp_of c9_16.eq_1
@[go_sem] def c9_17_wp := wp_of c9_17.eq_1
@[go_sem] def c9_18_wp := wp_of c9_18.eq_1
@[go_sem] def c9_19_wp := wp_of c9_19.eq_1
@[go_sem] def c9_20_wp := wp_of c9_20.eq_1
def c9 : AFn := ⟨30, [.t 6], c9_20⟩
theorem c9_ok : compF Tryz.prog Tryz.f9 = some c9 := by kernel_rfl
theorem a9 {args : List AV} {σ : ASt} {R : AV → ASt → Prop} (hl : args.length ≤ 30) (h : c9_20.wp Tryz.prog (RetQ [.t 6] R) (init args) σ) : ACalls Tryz.prog 9 args σ R := acalls_of Tryz.func9 c9_ok hl h
end Go.A
namespace Go.A
open Go.Proofs Go.Lib
def Gr (σ0 σ : ASt) (k : SK) (n s : Nat) : Prop := (k = .full ∧ σ = σ0) ∨ ∃ b T, k = .tok b s T ∧ σ0 b = none ∧ σ = σ0.set b (some (.tok (n * s)))
theorem Gr.drop {σ0 σ : ASt} {k : SK} {n s : Nat} (h : Gr σ0 σ k n s) : Drop σ σ0 := by
 rcases h with ⟨_, rfl⟩ | ⟨b, T, _, hb, rfl⟩
 ·exact Drop.refl _
 ·exact Drop.set hb
theorem Gr.at {σ0 σ : ASt} {k : SK} {n s x : Nat} {r : Role} (h : Gr σ0 σ k n s) (hx : σ0 x = some r) : σ x = some r := by
 rcases h with ⟨_, rfl⟩ | ⟨b, T, _, hb, rfl⟩
 ·exact hx
 ·have : x ≠ b := by rintro rfl; rw [hb] at hx; cases hx
  rw [ASt.set_ne this]; exact hx
theorem Gr.app {e : TypeId} {σ0 σ σ' : ASt} {k k' : SK} {n m s : Nat} (h : Gr σ0 σ k n s) (ha : App e σ k s n m k' σ') : Gr σ0 σ' k' (n + m) s := by
 rcases h with ⟨rfl, rfl⟩ | ⟨b, T, rfl, hb, rfl⟩
 ·cases ha with
  | none hm => subst hm; exact .inl ⟨rfl, rfl⟩
  | room b T hb => cases hb
  | grow b hb _ => exact .inr ⟨b, _, rfl, hb, rfl⟩
 ·have hg : Grown σ0 (σ0.set b (some (.tok (n * s)))) (.tok b s T) n s := .inr ⟨b, T, rfl, hb, rfl⟩
  rcases hg.app ha with ⟨h1, h2, h3⟩ | ⟨c, T', h1, h2, h3⟩
  ·exact .inl ⟨h1, h3⟩
  ·exact .inr ⟨c, T', h1, h2, h3⟩
theorem appG_by {e : TypeId} {σ0 σ : ASt} {k k2 : SK} {s bytes : Nat} {z xs ys : List AV} {K : AV → ASt → Prop} (h : Gr σ0 σ k xs.length s) (hx : wellSz s xs = true) (h2 : wellSz s ys = true) (h3 : leaves (ys.flatMap AV.cells) = true) (h4 : (xs.length + ys.length) * bytes ≤ 140737488355328) (h5 : xs.length + ys.length ≤ 4611686018427387904)
  (hK : ∀ k' σ', Gr σ0 σ' k' (xs ++ ys).length s → K (.sl k' (xs ++ ys)) σ') : appC e s bytes z (.sl k xs) (.sl k2 ys) σ K := by
 refine ⟨?_, h2, h3, h4, h5, .inl fun k' σ' ha => hK k' σ' (by rw [List.length_append]; exact h.app ha)⟩
 rcases h with ⟨rfl, rfl⟩ | ⟨b, T, rfl, hb, rfl⟩
 ·exact hx
 ·exact ⟨rfl, ASt.set_same _ _ _⟩
theorem Gr.tab {σ0 σ : ASt} {k : SK} {n s : Nat} (h : Gr σ0 σ k n s) (hT : Tab σ0) : Tab σ := h.at hT
theorem argAV_wl : ∀ (L : List PV), wellSz 4 (L.map argAV) = true
 | [] => rfl
 | x :: xs => by
   rw [List.map_cons, wellSz, argAV_wl xs]
   rfl
theorem pv_get {L : List PV} {i : Nat} {v : PV} (h : L[i]? = some v) : (L.map PV.av)[i]? = some v.av := by rw [List.getElem?_map, h]; rfl
theorem xl_ok {σ : ASt} (hT : Tab σ) (nm s : List UInt8) (L : List PV) (R : PV) (hL : L.length ≤ 100)
  (hcall : ∀ τ, Tab τ → ACalls Tryz.prog 12 [.str nm, .sl .shr ((PV.text s :: L).map argAV)] τ fun v σ' => v = R.av ∧ σ' = τ) (hR : R.good) :
  ACalls Tryz.prog 9 [.str nm, .str s, .sl .shr (L.map PV.av)] σ fun v σ' => v = .str (showP R) ∧ σ' = σ := by
 have h1 := vone_ok (.text s)
 have hone := fun v => vone_ok v
 have hsh := fun (τ : ASt) (hT : Tab τ) => show_ok hT R hR
 simp only [PV.av] at h1
 have hlm : (L.map PV.av).length = L.length := List.length_map _
 refine a9 (by simp) ?_
 obtain ⟨F, hF⟩ : ∃ F, F = ACode.wp Tryz.prog c9_17 := ⟨_, rfl⟩
 simp (disch := first | assumption | omega) only [go_sem, Nat.reduceEqDiff, ↓reduceIte]
 refine h1.use ?_
 simp (disch := first | assumption | omega) only [go_sem, Nat.reduceEqDiff, ↓reduceIte, Bool.true_and, argAV_any, argAV_len, ←hF]
 refine wp_loop_by (fun (i : Nat) a σ' => i ≤ L.length ∧ (a 0 = .str nm ∧ a 14 = .sl .shr (L.map PV.av) ∧ a 15 = .int .i64 L.length ∧ a 16 = .int .i64 i) ∧ ∃ k, a 7 = .sl k ((PV.text s :: L.take i).map argAV) ∧ Gr σ σ' k ((PV.text s :: L.take i).map argAV).length 4)
  (fun i => L.length - i) 0 (Dr.now ⟨Nat.zero_le _, ?_, .full, ?_, .inl ⟨rfl, rfl⟩⟩) ?_
 ·simp [AFr.upd, init]
 ·simp [AFr.upd]
 rintro i a σ1 ⟨hi, hf, k, h7, hg⟩
 by_cases hlt : i < L.length
 ·have hlt' : (i : Int) < L.length := by omega
  have hx : L[i]? = some (L[i]'hlt) := List.getElem?_eq_getElem hlt
  obtain ⟨p, hp⟩ : ∃ p, L[i]'hlt = p := ⟨_, rfl⟩
  rw [hp] at hx
  have hmx := pv_get hx
  have hap : (PV.text s :: L.take i).map argAV ++ [argAV p] = (PV.text s :: L.take (i + 1)).map argAV := by
   obtain ⟨h1, h2⟩ := List.getElem?_eq_some_iff.1 hx
   rw [List.take_succ_eq_append_getElem h1, h2]; simp
  have hwl := argAV_wl (PV.text s :: L.take i)
  have hlen : ((PV.text s :: L.take i).map argAV).length ≤ 200 := by simp; omega
  have ho := hone p
  have hany := PV.av_any p
  have hcl := PV.av_cells p
  generalize (PV.text s :: L.take i).map argAV = A at *
  generalize L.map PV.av = LV at *
  generalize hpa : p.av = x at *
  simp (disch := first | assumption | omega) only [go_sem, Nat.reduceEqDiff, ↓reduceIte, hf, h7, hlt', hmx, hcl]
  refine ho.use ?_
  simp (disch := first | assumption | omega) only [go_sem, Nat.reduceEqDiff, ↓reduceIte, Bool.true_and, argAV_any, argAV_len]
  refine appG_by (bytes := 48) (ys := [argAV p]) hg hwl rfl rfl (by simp only [List.length_cons, List.length_nil]; omega) (by simp only [List.length_cons, List.length_nil]; omega) fun k' σ' hg' => ?_
  rw [hap] at hg' ⊢
  simp (disch := first | assumption | omega) only [go_sem, Nat.reduceEqDiff, ↓reduceIte, hf]
  refine ⟨i + 1, by dsimp only; omega, Dr.now ⟨by omega, ?_, k', ?_, by simpa using hg'⟩⟩
  ·simp [AFr.upd, hf]
  ·simp [AFr.upd]
 ·have hlt' : ¬ (i : Int) < L.length := by omega
  have e : L.take i = L := List.take_of_length_le (by omega)
  rw [e] at h7 hg
  have hc := hcall σ1 (hg.tab hT)
  have hs1 := hsh σ1 (hg.tab hT)
  generalize (PV.text s :: L).map argAV = A at *
  generalize R.av = W at *
  simp (disch := first | assumption | omega) only [go_sem, ↓reduceIte, hf, hlt']
  rw [hF]
  simp (disch := first | assumption | omega) only [go_sem, reduceCtorEq, Nat.reduceEqDiff, ↓reduceIte, hf, h7]
  refine ACalls.shr rfl (hc.mono ?_)
  rintro v σ' ⟨rfl, rfl⟩
  simp (disch := first | assumption | omega) only [go_sem, ↓reduceIte]
  refine hs1.mono ?_
  rintro v σ' ⟨rfl, rfl⟩
  simp (disch := first | assumption | omega) only [go_sem, ↓reduceIte]
  exact retC_by hg.drop (.refl _) ⟨rfl, rfl⟩
end Go.A
namespace Go.A
open Go.Proofs
/-! 19: tabular/tabularlaw16.Args -/
def c19_0 : ACode := .ops [
 ⟨some 2, none, .q (.mv (.v (.sl .full []))), []⟩]
def c19_1 : ACode := .ops [
 ⟨some 6, none, .q (.bsl 4 []), []⟩,
 ⟨some 3, none, .q (.mv (.t 6)), []⟩]
def c19_2 : ACode := .ops [
 ⟨some 7, none, .q (.mv (.t 0)), []⟩,
 ⟨some 8, none, .q (.len (.t 7)), []⟩,
 ⟨some 9, none, .q (.mv (.v (.int .i64 0))), []⟩]
def c19_3 : ACode := .ops [
 ⟨some 10, none, .q (.bin .lss (.t 9) (.t 8)), []⟩]
def c19_4 : ACode := .cond (.t 10) .skip (.exit 0)
def c19_5 : ACode := .ops [
 ⟨some 11, none, .q (.ia 3 (.t 7) (.t 9)), []⟩,
 ⟨some 12, none, .q (.ld (some 3) (.t 11)), []⟩,
 ⟨some 5, none, .e (.alloc [(.int .i64 0), (.int .i64 0), (.str [])]), []⟩,
 ⟨none, none, .e (.store 3 (.t 5) (.t 12)), []⟩]
def c19_6 : ACode := .ops [
 ⟨some 13, none, .q (.fa 2 (.t 5)), []⟩,
 ⟨some 14, none, .q (.ld none (.t 13)), []⟩,
 ⟨some 15, none, .e (.call 6 [(.t 14), (.v (.int .i64 60))]), []⟩,
 ⟨some 16, none, .q (.fa 2 (.t 5)), []⟩,
 ⟨none, none, .e (.store 1 (.t 16) (.t 15)), []⟩]
def c19_7 : ACode := .ops [
 ⟨some 17, none, .q (.mv (.t 3)), []⟩,
 ⟨some 18, none, .q (.ld (some 3) (.t 5)), []⟩,
 ⟨some 19, none, .e (.call 26 [(.t 18)]), []⟩,
 ⟨some 20, none, .e (.call 13 [(.t 19)]), []⟩,
 ⟨some 21, none, .q (.bsl 4 [(.t 20)]), []⟩,
 ⟨some 22, none, .e (.app 36 4 48 [(.int .i64 0), (.int .i64 0), (.bool false), (.sl .full [])] (.t 17) (.t 21)), []⟩,
 ⟨some 3, none, .q (.mv (.t 22)), []⟩]
def c19_8 : ACode := .seq c19_6 c19_7
def c19_9 : ACode := .seq c19_5 c19_8
def c19_10 : ACode := .block 1 c19_9
def c19_11 : ACode := .ops [
 ⟨some 23, none, .q (.bin .add (.t 9) (.v (.int .i64 1))), []⟩,
 ⟨some 9, none, .q (.mv (.t 23)), []⟩]
def c19_12 : ACode := .seq c19_10 c19_11
def c19_13 : ACode := .seq c19_4 c19_12
def c19_14 : ACode := .seq c19_3 c19_13
def c19_15 : ACode := .loop c19_14
def c19_16 : ACode := .block 0 c19_15
def c19_17 : ACode := .seq c19_2 c19_16
def c19_18 : ACode := .ops [
 ⟨some 24, none, .q (.mv (.t 3)), []⟩,
 ⟨some 2, none, .q (.mv (.t 24)), []⟩]
def c19_19 : ACode := .seq c19_18 .ret
def c19_20 : ACode := .seq c19_17 c19_19
def c19_21 : ACode := .seq c19_1 c19_20
def c19_22 : ACode := .seq c19_0 c19_21
@[go_sem] def c19_0_wp := wp_of c19_0.eq_1
@[go_sem] def c19_1_wp := wp_of c19_1.eq_1
@[go_sem] def c19_2_wp := wp_of c19_2.eq_1
@[go_sem] def c19_3_wp := wp_of c19_3.eq_1
@[go_sem] def c19_4_wp := wp_of c19_4.eq_1
@[go_sem] def c19_5_wp := wp_of c19_5.eq_1
@[go_sem] def c19_6_wp := wp_of c19_6.eq_1
@[go_sem] def c19_7_wp := wp_of c19_7.eq_1
@[go_sem] def c19_8_wp := wp_of c19_8.eq_1
@[go_sem] def c19_9_wp := wp_of c19_9.eq_1
@[go_sem] def c19_10_wp := wp_of c19_10.eq_1
@[go_sem] def c19_11_wp := wp_of c19_11.eq_1
@[go_sem] def c19_12_wp := wp_of c19_12.eq_1
@[go_sem] def c19_13_wp := wp_of c19_13.eq_1
@[go_sem] def c19_14_wp := wp_of c19_14.eq_1
@[go_sem] def c19_15_wp := wp_of c19_15.eq_1
@[go_sem] def c19_16_wp := wp_of c19_16.eq_1
@[go_sem] def c19_17_wp := wp_of c19_17.eq_1
@[go_sem] def c19_18_wp := wp_of c19_18.eq_1
@[go_sem] def c19_19_wp := wp_of c19_19.eq_1
@[go_sem] def c19_20_wp := wp_of c19_20.eq_1
@[go_sem] def c19_21_wp := wp_of c19_21.eq_1
@[go_sem] def c19_22_wp := wp_of c19_22.eq_1
def c19 : AFn := ⟨25, [.t 2], c19_22⟩
theorem c19_ok : compF Tryz.prog Tryz.f19 = some c19 := by kernel_rfl
theorem a19 {args : List AV} {σ : ASt} {R : AV → ASt → Prop} (hl : args.length ≤ 25) (h : c19_22.wp Tryz.prog (RetQ [.t 2] R) (init args) σ) : ACalls Tryz.prog 19 args σ R := acalls_of Tryz.func19 c19_ok hl h
end Go.A
namespace Go.A
open Go.Proofs
theorem Grown.u8 {σ0 σ : ASt} {k : SK} {n s : Nat} (h : Grown σ0 σ k n s) (hU : U8 σ0) : U8 σ := ⟨h.at hU.1, h.at hU.2⟩
def argsP (L : List Pl) : List PV := L.map fun p => ofP ⟨p.kind, p.n, p.s.take 60⟩
theorem pl_get {L : List Pl} {i : Nat} {p : Pl} (h : L[i]? = some p) : (L.map plAV)[i]? = some (plAV p) := by rw [List.getElem?_map, h]; rfl
set_option maxHeartbeats 1000000 in
theorem args_ok {σ : ASt} (h : U8 σ) (L : List Pl) (hn : L.length ≤ 100000) : ACalls Tryz.prog 19 [.sl .shr (L.map plAV)] σ fun v σ' => v = .sl .shr ((argsP L).map argAV) ∧ σ' = σ := by
 refine a19 (by simp) ?_
 obtain ⟨F, hF⟩ : ∃ F, F = ACode.wp Tryz.prog c19_19 := ⟨_, rfl⟩
 simp (disch := first | assumption | omega) only [go_sem, reduceCtorEq, ↓reduceIte, ←hF]
 refine wp_loop_by (fun (i : Nat) a σ' => i ≤ L.length ∧ (a 7 = .sl .shr (L.map plAV) ∧ a 8 = .int .i64 L.length ∧ a 9 = .int .i64 i) ∧ ∃ k, a 3 = .sl k ((argsP (L.take i)).map argAV) ∧ Grown σ σ' k ((argsP (L.take i)).map argAV).length 4)
  (fun i => L.length - i) 0 (Dr.now ⟨Nat.zero_le _, ?_, .full, ?_, .inl ⟨rfl, by simp [argsP], rfl⟩⟩) ?_
 ·simp (disch := first | assumption | omega) only [go_sem, Nat.reduceEqDiff, ↓reduceIte]
 ·simp (disch := first | assumption | omega) only [go_sem, Nat.reduceEqDiff, ↓reduceIte, argsP]
 rintro i a σ1 ⟨hi, hf, k, h3, hg⟩
 by_cases hlt : i < L.length
 ·have hlt' : (i : Int) < L.length := by omega
  have hx : L[i]? = some (L[i]'hlt) := List.getElem?_eq_getElem hlt
  obtain ⟨p, hp⟩ : ∃ p, L[i]'hlt = p := ⟨_, rfl⟩
  rw [hp] at hx
  have hmx := pl_get hx
  have hap : (argsP (L.take i)).map argAV ++ [argAV (ofP ⟨p.kind, p.n, p.s.take 60⟩)] = (argsP (L.take (i + 1))).map argAV := by
   obtain ⟨h1, h2⟩ := List.getElem?_eq_some_iff.1 hx
   rw [List.take_succ_eq_append_getElem h1, h2]; simp [argsP]
  have hlen : ((argsP (L.take i)).map argAV).length ≤ 100000 := by simp [argsP]; omega
  obtain ⟨kd, n, s⟩ := p
  dsimp only at hap
  have hC := lcut_ok s 60
  rw [show (((60 : Nat)) : Int) = 60 from rfl] at hC
  have htl : (s.take 60).length ≤ 60 := by rw [List.length_take]; omega
  generalize s.take 60 = t at *
  have hO1 := vone_ok (ofP ⟨kd, n, t⟩)
  have hu1 := hg.u8 h
  unfold plAV at hmx hf
  dsimp only at hmx
  generalize (argsP (L.take i)).map argAV = A at *
  simp (disch := first | assumption | omega) only [go_sem, Nat.reduceEqDiff, Nat.reduceAdd, Nat.reduceLeDiff, ↓reduceIte, hf, hlt', hmx]
  refine allocC_by fun c hc => ?_
  obtain ⟨hga, hc0⟩ := hg.upon hc (q := .obj [.int .i64 kd, .int .i64 n, .str t])
  have hOf := of_ok (hu1.set hc (r := some (.obj [.int .i64 kd, .int .i64 n, .str t]))) ⟨kd, n, t⟩ (show t.length ≤ 4611686018427387904 by omega)
  unfold plAV at hOf
  dsimp only at hOf
  simp (disch := first | assumption | omega) only [go_sem, Nat.reduceEqDiff, Nat.reduceAdd, Nat.reduceLeDiff, ↓reduceIte, Bool.true_and]
  refine hC.use ?_
  simp (disch := first | assumption | omega) only [go_sem, Nat.reduceEqDiff, Nat.reduceAdd, Nat.reduceLeDiff, ↓reduceIte, Bool.true_and, h3, ASt.set_set]
  refine hOf.mono ?_
  rintro v σ' ⟨rfl, rfl⟩
  simp (disch := first | assumption | omega) only [go_sem, ↓reduceIte]
  refine hO1.use ?_
  simp (disch := first | assumption | omega) only [go_sem, Nat.reduceEqDiff, ↓reduceIte, Bool.true_and, argAV_any, argAV_len]
  refine appC_by (bytes := 48) (ys := [argAV (ofP ⟨kd, n, t⟩)]) hga rfl rfl (by simp only [List.length_cons, List.length_nil]; omega) (by simp only [List.length_cons, List.length_nil]; omega) fun k' σ' hg' => ?_
  rw [hap] at hg' ⊢
  obtain ⟨σ2, hd, hg2⟩ := hg'.off hc0
  simp (disch := first | assumption | omega) only [go_sem, Nat.reduceEqDiff, ↓reduceIte, hf]
  refine ⟨i + 1, by dsimp only; omega, Dr.drop hd ⟨by omega, ?_, k', ?_, by simpa using hg2⟩⟩
  ·unfold plAV
   simp (disch := first | assumption | omega) only [go_sem, Nat.reduceEqDiff, ↓reduceIte, hf]
  ·rfl
 ·have hlt' : ¬ (i : Int) < L.length := by omega
  have e : L.take i = L := List.take_of_length_le (by omega)
  rw [e] at h3 hg
  simp (disch := first | assumption | omega) only [go_sem, ↓reduceIte, hf, hlt']
  rw [hF]
  simp (disch := first | assumption | omega) only [go_sem, Nat.reduceEqDiff, ↓reduceIte, h3]
  exact retC_by hg.drop (.sl _ _) ⟨rfl, rfl⟩
end Go.A
namespace Go.A
open Go.Proofs
/-! 8: tabular/tabularlaw17.awake -/
def c8_0 : ACode := .ops [
 ⟨some 0, none, .q (.mv (.v (.bool false))), []⟩]
def c8_1 : ACode := .ops [
 ⟨some 3, none, .q (.build [(.int .i64 0), (.int .i64 0), (.str [])] [(0, 1, (.v (.int .i64 2))), (2, 1, (.v (.str [97, 195, 169, 226, 130, 172])))]), []⟩,
 ⟨some 4, none, .q (.build [(.int .i64 0), (.int .i64 0), (.str [])] [(0, 1, (.v (.int .i64 1))), (1, 1, (.v (.int .i64 20000)))]), []⟩,
 ⟨some 5, none, .q (.bsl 3 [(.t 3), (.t 4)]), []⟩,
 ⟨some 6, none, .e (.call 19 [(.t 5)]), []⟩,
 ⟨some 7, none, .e (.call 12 [(.v (.str [82, 73, 71, 72, 84])), (.t 6)]), []⟩,
 ⟨some 1, none, .q (.mv (.t 7)), []⟩]
def c8_2 : ACode := .ops [
 ⟨some 8, none, .q (.build [(.int .i64 0), (.int .i64 0), (.str [])] [(0, 1, (.v (.int .i64 2))), (2, 1, (.v (.str [97, 98, 45, 99, 68])))]), []⟩,
 ⟨some 9, none, .q (.bsl 3 [(.t 8)]), []⟩,
 ⟨some 10, none, .e (.call 19 [(.t 9)]), []⟩,
 ⟨some 11, none, .e (.call 12 [(.v (.str [80, 82, 79, 80, 69, 82])), (.t 10)]), []⟩,
 ⟨some 2, none, .q (.mv (.t 11)), []⟩]
def c8_3 : ACode := .ops [
 ⟨some 12, none, .q (.mv (.t 1)), []⟩,
 ⟨some 13, none, .e (.call 11 [(.t 12)]), []⟩,
 ⟨some 14, none, .q (.bin .eql (.t 13) (.v (.str [195, 169, 226, 130, 172]))), []⟩,
 ⟨some 15, none, .q (.mv (.t 14)), []⟩,
 ⟨some 16, some (15, true), .q (.mv (.t 2)), []⟩,
 ⟨some 17, some (15, true), .e (.call 11 [(.t 16)]), []⟩,
 ⟨some 18, some (15, true), .q (.bin .eql (.t 17) (.v (.str [65, 98, 45, 67, 100]))), []⟩,
 ⟨some 19, none, .q (.pick (.t 15) (.t 18) (.v (.bool false))), []⟩,
 ⟨some 0, none, .q (.mv (.t 19)), []⟩]
def c8_4 : ACode := .seq c8_3 .ret
def c8_5 : ACode := .seq c8_2 c8_4
def c8_6 : ACode := .seq c8_1 c8_5
def c8_7 : ACode := .seq c8_0 c8_6
@[go_sem] def c8_0_wp := wp_of c8_0.eq_1
@[go_sem] def c8_1_wp := wp_of c8_1.eq_1
@[go_sem] def c8_2_wp := wp_of c8_2.eq_1
@[go_sem] def c8_3_wp := wp_of c8_3.eq_1
@[go_sem] def c8_4_wp := wp_of c8_4.eq_1
@[go_sem] def c8_5_wp := wp_of c8_5.eq_1
@[go_sem] def c8_6_wp := wp_of c8_6.eq_1
@[go_sem] def c8_7_wp := wp_of c8_7.eq_1
def c8 : AFn := ⟨20, [.t 0], c8_7⟩
theorem c8_ok : compF Tryz.prog Tryz.f8 = some c8 := by kernel_rfl
theorem a8 {args : List AV} {σ : ASt} {R : AV → ASt → Prop} (hl : args.length ≤ 20) (h : c8_7.wp Tryz.prog (RetQ [.t 0] R) (init args) σ) : ACalls Tryz.prog 8 args σ R := acalls_of Tryz.func8 c8_ok hl h
end Go.A
namespace Go.A
open Go.Proofs Go.Lib
def plsA : List Pl := [⟨2, 0, [97, 195, 169, 226, 130, 172]⟩, ⟨1, 20000, []⟩]
def plsB : List Pl := [⟨2, 0, [97, 98, 45, 99, 68]⟩]
theorem xaw1 : argsP plsA = [.text [97, 195, 169, 226, 130, 172], .num 20000] := by decide +kernel
theorem xaw2 : argsP plsB = [.text [97, 98, 45, 99, 68]] := by decide +kernel
theorem xaw3 : sidesP nRIGHT [97, 195, 169, 226, 130, 172] (clampP (asIntV (.num 20000)).1) = .text [195, 169, 226, 130, 172] := by decide +kernel
theorem xaw4 : propP [97, 98, 45, 99, 68] = [65, 98, 45, 67, 100] := by decide +kernel
theorem xawake_ok {σ : ASt} (hT : Tab σ) (hU : U8 σ) : ACalls Tryz.prog 8 [] σ fun v σ' => v = .bool true ∧ σ' = σ := by
 have hA := args_ok hU plsA (by decide)
 have hB := args_ok hU plsB (by decide)
 rw [xaw1] at hA
 rw [xaw2] at hB
 have hC := xcall_of hT nRIGHT [.text [97, 195, 169, 226, 130, 172], .num 20000] _ _ (by decide) (by decide) (by decide) (fun b τ hT hb _ => rc_RIGHT hT [97, 195, 169, 226, 130, 172] (.num 20000) (by decide) hb (by show _ ≤ _; decide) trivial)
 have hD := xcall_of hT nPROPER [.text [97, 98, 45, 99, 68]] _ _ (by decide) (by decide) (by decide) (fun b τ hT hb _ => rc_PROPER hT [97, 98, 45, 99, 68] (by decide) hb)
 rw [xaw3] at hC
 rw [xaw4] at hD
 rw [if_pos (by decide)] at hC hD
 have h1 := show_ok hT (.text [195, 169, 226, 130, 172]) trivial
 have h2 := show_ok hT (.text [65, 98, 45, 67, 100]) trivial
 simp only [PV.av, showP, asTextP] at hC hD h1 h2
 generalize hLA : [PV.text [97, 195, 169, 226, 130, 172], .num 20000].map argAV = LA at *
 generalize hLB : [PV.text [97, 98, 45, 99, 68]].map argAV = LB at *
 unfold plsA plsB plAV at *
 simp only [List.map_cons, List.map_nil] at hA hB
 unfold nRIGHT nPROPER at *
 refine a8 (by simp) ?_
 simp (disch := first | assumption | omega) only [go_sem, Nat.reduceEqDiff, Nat.reduceAdd, Nat.reduceLeDiff, ↓reduceIte, Bool.true_and]
 refine ACalls.shr rfl (hA.mono ?_)
 rintro v σ' ⟨rfl, rfl⟩
 simp (disch := first | assumption | omega) only [go_sem, ↓reduceIte]
 refine hC.mono ?_
 rintro v σ' ⟨rfl, rfl⟩
 simp (disch := first | assumption | omega) only [go_sem, Nat.reduceAdd, Nat.reduceLeDiff, ↓reduceIte, Bool.true_and]
 refine ACalls.shr rfl (hB.mono ?_)
 rintro v σ' ⟨rfl, rfl⟩
 simp (disch := first | assumption | omega) only [go_sem, ↓reduceIte]
 refine hD.mono ?_
 rintro v σ' ⟨rfl, rfl⟩
 simp (disch := first | assumption | omega) only [go_sem, Nat.reduceEqDiff, ↓reduceIte]
 refine h1.mono ?_
 rintro v σ' ⟨rfl, rfl⟩
 simp (disch := first | assumption | omega) only [go_sem, Nat.reduceEqDiff, ↓reduceIte, eq_self]
 refine h2.mono ?_
 rintro v σ' ⟨rfl, rfl⟩
 simp (disch := first | assumption | omega) only [go_sem, Nat.reduceEqDiff, ↓reduceIte, eq_self]
 exact retC_by (.refl _) (.refl _) ⟨rfl, rfl⟩
end Go.A
namespace Go.A
open Go.Proofs Go.Lib
theorem sgT_whole (s : List UInt8) : ∀ m, sgT s = some m → Whole s ∧ (pcs s).length = m := by
 refine pcs_ind (Q := fun s => ∀ m, sgT s = some m → Whole s ∧ (pcs s).length = m) ?_ ?_ s
 ·intro m h
  rw [sgT_nil] at h
  injection h with h
  exact ⟨whole_nil, h⟩
 ·intro r hr ih m h
  by_cases hv : decodeL r = (65533, 1)
  ·rw [sgT_bad hr hv] at h; cases h
  ·rw [sgT_step hr hv] at h
   obtain ⟨k, hk, rfl⟩ := Option.map_eq_some_iff.1 h
   obtain ⟨h1, h2⟩ := ih k hk
   exact ⟨(whole_step hr).2 ⟨hv, h1⟩, by rw [pcs_step hr, List.length_cons, h2]⟩
def numP (n : Int) : PV := .num ((intP n).getD 0)
theorem numP_good (n : Int) : (numP n).good := by
 unfold numP intP
 show Int.natAbs _ ≤ _
 split
 ·simp only [Option.getD_some]; omega
 ·decide
theorem asInt_numP (n : Int) : asIntV (numP n) = (if n.natAbs ≤ 99999999999999 then n else 0, 0) := by
 unfold asIntV numP intP
 split
 ·simp only [Option.getD_some, asNum]
  rw [Int.mul_tdiv_cancel _ (by decide)]
 ·rfl
theorem clamp_num {n : Int} (h : n.natAbs ≤ 2000000) : clampP (asIntV (numP n)).1 = n := by
 rw [asInt_numP, if_pos (by omega)]
 unfold clampP
 dsimp only
 omega
def noSign (n : Int) : Prop := n < 1 ∨ 1114111 < n ∨ (55296 ≤ n ∧ n ≤ 57343)
instance (n : Int) : Decidable (noSign n) := by unfold noSign; infer_instance
theorem skip_zero (s : List UInt8) : skipP s 0 = 0 := by simp [skipP]
theorem skip_app {s : List UInt8} (hw : Whole s) {n : Nat} (hn : n ≤ (pcs s).length) (R : List UInt8) : skipP (s.take (skipP s n) ++ R) n = skipP s n := by
 have e : ((pcs s).take n).length = n := by rw [List.length_take]; omega
 have h := skip_take s n
 rw [Int.toNat_natCast] at h
 rw [h]
 unfold skipP
 rw [Int.toNat_natCast, pcs_app fun p hp => hw p (List.mem_of_mem_take hp), List.take_left' e]
theorem left_law {s : List UInt8} {n : Nat} : sidesP nLEFT s n = .text (s.take (skipP s n)) := by
 unfold sidesP partP
 rw [if_neg (by omega), if_pos (by rfl), skip_zero, List.drop_zero]
theorem right_law {s : List UInt8} {m n : Nat} (hm : (pcs s).length = m) (hn : n ≤ m) : sidesP nRIGHT s ((m : Int) - n) = .text (s.drop (skipP s n)) := by
 unfold sidesP
 rw [if_neg (by omega), if_neg (by decide), hm, show max ((m : Int) - (m - n)) 0 = n by omega]
theorem mid_law {s : List UInt8} {n k : Nat} : midP s ((n : Int) + 1) k = .text ((s.drop (skipP s n)).take (skipP (s.drop (skipP s n)) k)) := by
 unfold midP partP
 rw [if_neg (by omega), show (n : Int) + 1 - 1 = n by omega]
theorem cut_law' {s : List UInt8} {n k : Nat} (hs : s.length ≤ 2000) : replP s ((n : Int) + 1) k [] = .text (s.take (skipP s n) ++ (s.drop (skipP s n)).drop (skipP (s.drop (skipP s n)) k)) := by
 unfold replP madeT
 rw [if_neg (by omega), show (n : Int) + 1 - 1 = n by omega, List.append_nil, if_neg]
 rw [List.length_append, List.length_take, List.length_drop, List.length_drop]
 omega
theorem back_law {s : List UInt8} (hw : Whole s) {n k : Nat} (hn : n ≤ (pcs s).length) (hs : s.length ≤ 2000) :
  replP (s.take (skipP s n) ++ (s.drop (skipP s n)).drop (skipP (s.drop (skipP s n)) k)) ((n : Int) + 1) 0 ((s.drop (skipP s n)).take (skipP (s.drop (skipP s n)) k)) = .text s := by
 unfold replP madeT
 rw [if_neg (by omega), show (n : Int) + 1 - 1 = n by omega, skip_app hw hn, skip_zero, List.drop_zero]
 have hA := skipP_le s n
 have e1 : (s.take (skipP s n)).length = skipP s n := by rw [List.length_take]; omega
 rw [List.take_left' e1, List.drop_left' e1, List.append_assoc, List.take_append_drop, List.take_append_drop, if_neg (by omega)]
end Go.A
namespace Go.A
open Go.Proofs
/-! 4: tabular/tabularlaw17.TextsCodes -/
def c4_0 : ACode := .ops [
 ⟨some 2, none, .q (.mv (.v (.bool false))), []⟩]
def c4_1 : ACode := .ops [
 ⟨some 10, none, .q (.mv (.t 0)), []⟩,
 ⟨some 11, none, .e (.call 10 [(.t 10)]), []⟩,
 ⟨some 12, none, .e (.call 13 [(.t 11)]), []⟩,
 ⟨some 13, none, .q (.bsl 4 [(.t 12)]), []⟩,
 ⟨some 14, none, .e (.call 12 [(.v (.str [67, 72, 65, 82])), (.t 13)]), []⟩,
 ⟨some 3, none, .q (.mv (.t 14)), []⟩]
def c4_2 : ACode := .ops [
 ⟨some 16, none, .q (.mv (.t 3)), []⟩,
 ⟨some 17, none, .e (.call 14 [(.t 16)]), []⟩,
 ⟨some 15, none, .q (.mv (.t 17)), []⟩,
 ⟨some 18, none, .q (.ext 0 (.t 15)), []⟩,
 ⟨some 19, none, .q (.ext 1 (.t 15)), []⟩,
 ⟨some 4, none, .q (.mv (.t 18)), []⟩,
 ⟨some 5, none, .q (.mv (.t 19)), []⟩]
def c4_3 : ACode := .ops [
 ⟨some 20, none, .q (.mv (.t 5)), []⟩]
def c4_4 : ACode := .ops [
 ⟨some 21, none, .e (.call 8 []), []⟩,
 ⟨some 22, none, .q (.mv (.t 21)), []⟩,
 ⟨some 23, some (22, true), .q (.mv (.t 0)), []⟩,
 ⟨some 24, some (22, true), .q (.bin .lss (.t 23) (.v (.int .i64 1))), []⟩,
 ⟨some 25, some (22, true), .q (.mv (.t 24)), []⟩,
 ⟨some 26, some (25, false), .q (.mv (.t 0)), []⟩,
 ⟨some 27, some (25, false), .q (.bin .gtr (.t 26) (.v (.int .i64 1114111))), []⟩,
 ⟨some 28, some (22, true), .q (.pick (.t 25) (.v (.bool true)) (.t 27)), []⟩,
 ⟨some 29, some (22, true), .q (.mv (.t 28)), []⟩,
 ⟨some 30, some (29, false), .q (.mv (.t 0)), []⟩,
 ⟨some 31, some (29, false), .q (.bin .geq (.t 30) (.v (.int .i64 55296))), []⟩,
 ⟨some 32, some (29, false), .q (.mv (.t 31)), []⟩,
 ⟨some 33, some (32, true), .q (.mv (.t 0)), []⟩,
 ⟨some 34, some (32, true), .q (.bin .leq (.t 33) (.v (.int .i64 57343))), []⟩,
 ⟨some 35, some (29, false), .q (.pick (.t 32) (.t 34) (.v (.bool false))), []⟩,
 ⟨some 36, some (22, true), .q (.pick (.t 29) (.v (.bool true)) (.t 35)), []⟩,
 ⟨some 37, none, .q (.pick (.t 22) (.t 36) (.v (.bool false))), []⟩,
 ⟨some 2, none, .q (.mv (.t 37)), []⟩]
def c4_5 : ACode := .seq c4_4 .ret
def c4_6 : ACode := .cond (.t 20) c4_5 .skip
def c4_7 : ACode := .seq c4_3 c4_6
def c4_8 : ACode := .seq c4_2 c4_7
def c4_9 : ACode := .ops [
 ⟨some 39, none, .q (.mv (.t 3)), []⟩,
 ⟨some 40, none, .e (.call 15 [(.t 39)]), []⟩,
 ⟨some 38, none, .q (.mv (.t 40)), []⟩,
 ⟨some 41, none, .q (.ext 0 (.t 38)), []⟩,
 ⟨some 42, none, .q (.ext 1 (.t 38)), []⟩,
 ⟨some 6, none, .q (.mv (.t 41)), []⟩,
 ⟨some 7, none, .q (.mv (.t 42)), []⟩]
def c4_10 : ACode := .ops [
 ⟨some 44, none, .q (.mv (.t 6)), []⟩,
 ⟨some 45, none, .e (.call 7 [(.t 44)]), []⟩,
 ⟨some 43, none, .q (.mv (.t 45)), []⟩,
 ⟨some 46, none, .q (.ext 0 (.t 43)), []⟩,
 ⟨some 47, none, .q (.ext 1 (.t 43)), []⟩,
 ⟨some 8, none, .q (.mv (.t 46)), []⟩,
 ⟨some 9, none, .q (.mv (.t 47)), []⟩]
def c4_11 : ACode := .ops [
 ⟨some 48, none, .e (.call 8 []), []⟩,
 ⟨some 49, none, .q (.mv (.t 48)), []⟩,
 ⟨some 50, some (49, true), .q (.mv (.t 9)), []⟩,
 ⟨some 51, none, .q (.pick (.t 49) (.t 50) (.v (.bool false))), []⟩,
 ⟨some 52, none, .q (.mv (.t 51)), []⟩,
 ⟨some 53, some (52, true), .q (.mv (.t 8)), []⟩,
 ⟨some 54, some (52, true), .q (.bin .eql (.t 53) (.v (.int .i64 1))), []⟩,
 ⟨some 55, none, .q (.pick (.t 52) (.t 54) (.v (.bool false))), []⟩,
 ⟨some 56, none, .q (.mv (.t 55)), []⟩,
 ⟨some 57, some (56, true), .q (.mv (.t 6)), []⟩,
 ⟨some 58, some (56, true), .q (.bin .add (.t 57) (.v (.str [120]))), []⟩,
 ⟨some 59, some (56, true), .e (.call 9 [(.v (.str [67, 79, 68, 69])), (.t 58), (.v (.sl .full []))]), []⟩,
 ⟨some 60, some (56, true), .q (.mv (.t 0)), []⟩,
 ⟨some 61, some (56, true), .e (.call 10 [(.t 60)]), []⟩,
 ⟨some 62, some (56, true), .e (.call 11 [(.t 61)]), []⟩,
 ⟨some 63, some (56, true), .q (.bin .eql (.t 59) (.t 62)), []⟩,
 ⟨some 64, none, .q (.pick (.t 56) (.t 63) (.v (.bool false))), []⟩,
 ⟨some 2, none, .q (.mv (.t 64)), []⟩]
def c4_12 : ACode := .seq c4_11 .ret
def c4_13 : ACode := .seq c4_10 c4_12
def c4_14 : ACode := .seq c4_9 c4_13
def c4_15 : ACode := .seq c4_8 c4_14
def c4_16 : ACode := .seq c4_1 c4_15
def c4_17 : ACode := .seq c4_0 c4_16
def c4 : AFn := ⟨65, [.t 2], c4_17⟩
end Go.A
namespace Go.A
open Go.Proofs Go.Lib
theorem seen_num (n : Int) : seen 0 (asIntV (numP n)).2 = 0 := by rw [asInt_numP]; rfl
theorem num_call (n : Int) (h0 : -9223372036854775808 ≤ n) (h1 : n ≤ 9223372036854775807) : Pure Tryz.prog 10 [.int .i64 n] (numP n).av := xnum_ok n h0 h1
section
variable {σ : ASt} (hT : Tab σ) (s : List UInt8) (hs : s.length ≤ 200000)
include hT hs
theorem lc_LEFT {n : Int} {r : List UInt8} (hn : n.natAbs ≤ 2000000) (hr : sidesP nLEFT s n = .text r) :
  ACalls Tryz.prog 9 [.str nLEFT, .str s, .sl .shr [(numP n).av]] σ fun v σ' => v = .str r ∧ σ' = σ := by
 refine xl_ok hT nLEFT s [numP n] (.text r) (by simp) (fun τ hT => ?_) trivial
 have h := xcall_of hT nLEFT [.text s, numP n] _ _ (by decide) (by show (limX nLEFT).1 ≤ 2; decide) (by show 2 ≤ (limX nLEFT).2; decide) (fun b τ hT hb _ => rc_LEFT hT s (numP n) hs hb (numP_good n) trivial)
 rw [seen_num, if_pos rfl, clamp_num hn, hr] at h
 exact h
theorem lc_RIGHT {n : Int} {r : List UInt8} (hn : n.natAbs ≤ 2000000) (hr : sidesP nRIGHT s n = .text r) :
  ACalls Tryz.prog 9 [.str nRIGHT, .str s, .sl .shr [(numP n).av]] σ fun v σ' => v = .str r ∧ σ' = σ := by
 refine xl_ok hT nRIGHT s [numP n] (.text r) (by simp) (fun τ hT => ?_) trivial
 have h := xcall_of hT nRIGHT [.text s, numP n] _ _ (by decide) (by show (limX nRIGHT).1 ≤ 2; decide) (by show 2 ≤ (limX nRIGHT).2; decide) (fun b τ hT hb _ => rc_RIGHT hT s (numP n) hs hb (numP_good n) trivial)
 rw [seen_num, if_pos rfl, clamp_num hn, hr] at h
 exact h
theorem lc_MID {n k : Int} {r : List UInt8} (hn : n.natAbs ≤ 2000000) (hk : k.natAbs ≤ 2000000) (hr : midP s n k = .text r) :
  ACalls Tryz.prog 9 [.str nMID, .str s, .sl .shr [(numP n).av, (numP k).av]] σ fun v σ' => v = .str r ∧ σ' = σ := by
 refine xl_ok hT nMID s [numP n, numP k] (.text r) (by simp) (fun τ hT => ?_) trivial
 have h := xcall_of hT nMID [.text s, numP n, numP k] _ _ (by decide) (by show (limX nMID).1 ≤ 3; decide) (by show 3 ≤ (limX nMID).2; decide) (fun b τ hT hb _ => rc_MID hT s (numP n) (numP k) hs hb (numP_good n) trivial (numP_good k) trivial)
 rw [seen_num, seen_num, if_pos rfl, clamp_num hn, clamp_num hk, hr] at h
 exact h
theorem lc_REPLACE (t : List UInt8) (ht : t.length ≤ 200000) {n k : Int} {r : List UInt8} (hn : n.natAbs ≤ 2000000) (hk : k.natAbs ≤ 2000000) (hr : replP s n k t = .text r) :
  ACalls Tryz.prog 9 [.str nREPLACE, .str s, .sl .shr [(numP n).av, (numP k).av, (PV.text t).av]] σ fun v σ' => v = .str r ∧ σ' = σ := by
 refine xl_ok hT nREPLACE s [numP n, numP k, .text t] (.text r) (by simp) (fun τ hT => ?_) trivial
 have h := xcall_of hT nREPLACE [.text s, numP n, numP k, .text t] _ _ (by decide) (by show (limX nREPLACE).1 ≤ 4; decide) (by show 4 ≤ (limX nREPLACE).2; decide) (fun b τ hT hb _ => rc_REPLACE hT s t (numP n) (numP k) hs ht hb (numP_good n) trivial (numP_good k) trivial)
 rw [seen_num, seen_num, if_pos (by rfl), clamp_num hn, clamp_num hk, hr] at h
 exact h
theorem lc_LEN : ACalls Tryz.prog 9 [.str nLEN, .str s, .sl .shr []] σ fun v σ' => v = .str (showP (numP (pcs s).length)) ∧ σ' = σ := by
 have hl := pcs_len s
 have e : cntP (intP (pcs s).length) = numP (pcs s).length := by
  unfold numP intP
  rw [if_pos (by omega)]
  rfl
 refine xl_ok hT nLEN s [] (numP (pcs s).length) (by decide) (fun τ hT => ?_) (numP_good _)
 have h := xcall_of hT nLEN [.text s] _ _ (by decide) (by show (limX nLEN).1 ≤ 1; decide) (by show 1 ≤ (limX nLEN).2; decide) (fun b τ hT hb _ => rc_LEN hT s hs hb)
 rw [if_pos rfl, e] at h
 exact h
end
end Go.A
namespace Go.A
open Go.Proofs
/-! 3: tabular/tabularlaw17.TextsParts -/
def c3_0 : ACode := .ops [
 ⟨some 6, none, .q (.mv (.v (.bool false))), []⟩]
def c3_1 : ACode := .ops [
 ⟨some 14, none, .q (.mv (.t 0)), []⟩,
 ⟨some 15, none, .e (.call 6 [(.t 14), (.v (.int .i64 200))]), []⟩,
 ⟨some 0, none, .q (.mv (.t 15)), []⟩]
def c3_2 : ACode := .ops [
 ⟨some 17, none, .q (.mv (.t 0)), []⟩,
 ⟨some 18, none, .e (.call 7 [(.t 17)]), []⟩,
 ⟨some 16, none, .q (.mv (.t 18)), []⟩,
 ⟨some 19, none, .q (.ext 0 (.t 16)), []⟩,
 ⟨some 20, none, .q (.ext 1 (.t 16)), []⟩,
 ⟨some 7, none, .q (.mv (.t 19)), []⟩,
 ⟨some 8, none, .q (.mv (.t 20)), []⟩]
def c3_3 : ACode := .ops [
 ⟨some 21, none, .q (.mv (.t 8)), []⟩,
 ⟨some 22, none, .q (.un .not (.t 21)), []⟩,
 ⟨some 23, none, .q (.mv (.t 22)), []⟩,
 ⟨some 24, some (23, false), .q (.mv (.t 1)), []⟩,
 ⟨some 25, some (23, false), .q (.bin .lss (.t 24) (.v (.int .i64 0))), []⟩,
 ⟨some 26, none, .q (.pick (.t 23) (.v (.bool true)) (.t 25)), []⟩,
 ⟨some 27, none, .q (.mv (.t 26)), []⟩,
 ⟨some 28, some (27, false), .q (.mv (.t 1)), []⟩,
 ⟨some 29, some (27, false), .q (.mv (.t 7)), []⟩,
 ⟨some 30, some (27, false), .q (.bin .gtr (.t 28) (.t 29)), []⟩,
 ⟨some 31, none, .q (.pick (.t 27) (.v (.bool true)) (.t 30)), []⟩,
 ⟨some 32, none, .q (.mv (.t 31)), []⟩,
 ⟨some 33, some (32, false), .q (.mv (.t 2)), []⟩,
 ⟨some 34, some (32, false), .q (.bin .lss (.t 33) (.v (.int .i64 0))), []⟩,
 ⟨some 35, none, .q (.pick (.t 32) (.v (.bool true)) (.t 34)), []⟩,
 ⟨some 36, none, .q (.mv (.t 35)), []⟩,
 ⟨some 37, some (36, false), .q (.mv (.t 2)), []⟩,
 ⟨some 38, some (36, false), .q (.mv (.t 7)), []⟩,
 ⟨some 39, some (36, false), .q (.mv (.t 1)), []⟩,
 ⟨some 40, some (36, false), .q (.bin .sub (.t 38) (.t 39)), []⟩,
 ⟨some 41, some (36, false), .q (.bin .gtr (.t 37) (.t 40)), []⟩,
 ⟨some 42, none, .q (.pick (.t 36) (.v (.bool true)) (.t 41)), []⟩]
def c3_4 : ACode := .ops [
 ⟨some 43, none, .e (.call 8 []), []⟩,
 ⟨some 6, none, .q (.mv (.t 43)), []⟩]
def c3_5 : ACode := .seq c3_4 .ret
def c3_6 : ACode := .cond (.t 42) c3_5 .skip
def c3_7 : ACode := .seq c3_3 c3_6
def c3_8 : ACode := .ops [
 ⟨some 44, none, .q (.mv (.t 0)), []⟩,
 ⟨some 45, none, .q (.mv (.t 1)), []⟩,
 ⟨some 46, none, .e (.call 10 [(.t 45)]), []⟩,
 ⟨some 47, none, .q (.bsl 1 [(.t 46)]), []⟩,
 ⟨some 48, none, .e (.call 9 [(.v (.str [76, 69, 70, 84])), (.t 44), (.t 47)]), []⟩,
 ⟨some 9, none, .q (.mv (.t 48)), []⟩]
def c3_9 : ACode := .ops [
 ⟨some 49, none, .q (.mv (.t 0)), []⟩,
 ⟨some 50, none, .q (.mv (.t 7)), []⟩,
 ⟨some 51, none, .q (.mv (.t 1)), []⟩,
 ⟨some 52, none, .q (.bin .sub (.t 50) (.t 51)), []⟩,
 ⟨some 53, none, .e (.call 10 [(.t 52)]), []⟩,
 ⟨some 54, none, .q (.bsl 1 [(.t 53)]), []⟩,
 ⟨some 55, none, .e (.call 9 [(.v (.str [82, 73, 71, 72, 84])), (.t 49), (.t 54)]), []⟩,
 ⟨some 10, none, .q (.mv (.t 55)), []⟩]
def c3_10 : ACode := .ops [
 ⟨some 56, none, .q (.mv (.t 0)), []⟩,
 ⟨some 57, none, .q (.mv (.t 1)), []⟩,
 ⟨some 58, none, .q (.bin .add (.t 57) (.v (.int .i64 1))), []⟩,
 ⟨some 59, none, .e (.call 10 [(.t 58)]), []⟩,
 ⟨some 60, none, .q (.mv (.t 2)), []⟩,
 ⟨some 61, none, .e (.call 10 [(.t 60)]), []⟩,
 ⟨some 62, none, .q (.bsl 1 [(.t 59), (.t 61)]), []⟩,
 ⟨some 63, none, .e (.call 9 [(.v (.str [77, 73, 68])), (.t 56), (.t 62)]), []⟩,
 ⟨some 11, none, .q (.mv (.t 63)), []⟩]
def c3_11 : ACode := .ops [
 ⟨some 64, none, .q (.mv (.t 0)), []⟩,
 ⟨some 65, none, .q (.mv (.t 1)), []⟩,
 ⟨some 66, none, .q (.bin .add (.t 65) (.v (.int .i64 1))), []⟩,
 ⟨some 67, none, .e (.call 10 [(.t 66)]), []⟩,
 ⟨some 68, none, .q (.mv (.t 2)), []⟩,
 ⟨some 69, none, .e (.call 10 [(.t 68)]), []⟩,
 ⟨some 70, none, .q (.mki 30 (.v (.str []))), []⟩,
 ⟨some 71, none, .q (.bsl 1 [(.t 67), (.t 69), (.t 70)]), []⟩,
 ⟨some 72, none, .e (.call 9 [(.v (.str [82, 69, 80, 76, 65, 67, 69])), (.t 64), (.t 71)]), []⟩,
 ⟨some 12, none, .q (.mv (.t 72)), []⟩]
def c3_12 : ACode := .ops [
 ⟨some 73, none, .q (.mv (.t 12)), []⟩,
 ⟨some 74, none, .q (.mv (.t 1)), []⟩,
 ⟨some 75, none, .q (.bin .add (.t 74) (.v (.int .i64 1))), []⟩,
 ⟨some 76, none, .e (.call 10 [(.t 75)]), []⟩,
 ⟨some 77, none, .e (.call 10 [(.v (.int .i64 0))]), []⟩,
 ⟨some 78, none, .q (.mv (.t 11)), []⟩,
 ⟨some 79, none, .q (.mki 30 (.t 78)), []⟩,
 ⟨some 80, none, .q (.bsl 1 [(.t 76), (.t 77), (.t 79)]), []⟩,
 ⟨some 81, none, .e (.call 9 [(.v (.str [82, 69, 80, 76, 65, 67, 69])), (.t 73), (.t 80)]), []⟩,
 ⟨some 13, none, .q (.mv (.t 81)), []⟩]
def c3_13 : ACode := .ops [
 ⟨some 82, none, .e (.call 8 []), []⟩,
 ⟨some 83, none, .q (.mv (.t 82)), []⟩,
 ⟨some 84, some (83, true), .q (.mv (.t 9)), []⟩,
 ⟨some 85, some (83, true), .q (.mv (.t 10)), []⟩,
 ⟨some 86, some (83, true), .q (.bin .add (.t 84) (.t 85)), []⟩,
 ⟨some 87, some (83, true), .q (.mv (.t 0)), []⟩,
 ⟨some 88, some (83, true), .q (.bin .eql (.t 86) (.t 87)), []⟩,
 ⟨some 89, none, .q (.pick (.t 83) (.t 88) (.v (.bool false))), []⟩,
 ⟨some 90, none, .q (.mv (.t 89)), []⟩,
 ⟨some 91, some (90, true), .q (.mv (.t 13)), []⟩,
 ⟨some 92, some (90, true), .q (.mv (.t 0)), []⟩,
 ⟨some 93, some (90, true), .q (.bin .eql (.t 91) (.t 92)), []⟩,
 ⟨some 94, none, .q (.pick (.t 90) (.t 93) (.v (.bool false))), []⟩,
 ⟨some 95, none, .q (.mv (.t 94)), []⟩,
 ⟨some 96, some (95, true), .q (.mv (.t 0)), []⟩,
 ⟨some 97, some (95, true), .e (.call 9 [(.v (.str [76, 69, 78])), (.t 96), (.v (.sl .full []))]), []⟩,
 ⟨some 98, some (95, true), .q (.mv (.t 7)), []⟩,
 ⟨some 99, some (95, true), .e (.call 10 [(.t 98)]), []⟩,
 ⟨some 100, some (95, true), .e (.call 11 [(.t 99)]), []⟩,
 ⟨some 101, some (95, true), .q (.bin .eql (.t 97) (.t 100)), []⟩,
 ⟨some 102, none, .q (.pick (.t 95) (.t 101) (.v (.bool false))), []⟩,
 ⟨some 103, none, .q (.mv (.t 102)), []⟩,
 ⟨some 104, some (103, true), .q (.mv (.t 12)), []⟩,
 ⟨some 105, some (103, true), .q (.lenS (.t 104)), []⟩,
 ⟨some 106, some (103, true), .q (.mv (.t 11)), []⟩,
 ⟨some 107, some (103, true), .q (.lenS (.t 106)), []⟩,
 ⟨some 108, some (103, true), .q (.bin .add (.t 105) (.t 107)), []⟩,
 ⟨some 109, some (103, true), .q (.mv (.t 0)), []⟩,
 ⟨some 110, some (103, true), .q (.lenS (.t 109)), []⟩,
 ⟨some 111, some (103, true), .q (.bin .eql (.t 108) (.t 110)), []⟩,
 ⟨some 112, none, .q (.pick (.t 103) (.t 111) (.v (.bool false))), []⟩,
 ⟨some 6, none, .q (.mv (.t 112)), []⟩]
def c3_14 : ACode := .seq c3_13 .ret
def c3_15 : ACode := .seq c3_12 c3_14
def c3_16 : ACode := .seq c3_11 c3_15
def c3_17 : ACode := .seq c3_10 c3_16
def c3_18 : ACode := .seq c3_9 c3_17
def c3_19 : ACode := .seq c3_8 c3_18
def c3_20 : ACode := .seq c3_7 c3_19
def c3_21 : ACode := .seq c3_2 c3_20
def c3_22 : ACode := .seq c3_1 c3_21
def c3_23 : ACode := .seq c3_0 c3_22
@[go_sem] def c3_0_wp := wp_of c3_0.eq_1
@[go_sem] def c3_1_wp := wp_of c3_1.eq_1
@[go_sem] def c3_2_wp := wp_of c3_2.eq_1
@[go_sem] def c3_3_wp := wp_of c3_3.eq_1
@[go_sem] def c3_4_wp := wp_of c3_4.eq_1
@[go_sem] def c3_5_wp := wp_of c3_5.eq_1
@[go_sem] def c3_6_wp := wp_of c3_6.eq_1
@[go_sem] def c3_7_wp := wp_of c3_7.eq_1
@[go_sem] def c3_8_wp := wp_of c3_8.eq_1
@[go_sem] def c3_9_wp := wp_of c3_9.eq_1
@[go_sem] def c3_10_wp := wp_of c3_10.eq_1
@[go_sem] def c3_11_wp := wp_of c3_11.eq_1
@[go_sem] def c3_12_wp := wp_of c3_12.eq_1
@[go_sem] def c3_13_wp := wp_of c3_13.eq_1
@[go_sem] def c3_14_wp := wp_of c3_14.eq_1
@[go_sem] def c3_15_wp := wp_of c3_15.eq_1
@[go_sem] def c3_16_wp := wp_of c3_16.eq_1
@[go_sem] def c3_17_wp := wp_of c3_17.eq_1
@[go_sem] def c3_18_wp := wp_of c3_18.eq_1
@[go_sem] def c3_19_wp := wp_of c3_19.eq_1
@[go_sem] def c3_20_wp := wp_of c3_20.eq_1
@[go_sem] def c3_21_wp := wp_of c3_21.eq_1
@[go_sem] def c3_22_wp := wp_of c3_22.eq_1
@[go_sem] def c3_23_wp := wp_of c3_23.eq_1
def c3 : AFn := ⟨113, [.t 6], c3_23⟩
theorem c3_ok : compF Tryz.prog Tryz.f3 = some c3 := by kernel_rfl
theorem a3 {args : List AV} {σ : ASt} {R : AV → ASt → Prop} (hl : args.length ≤ 113) (h : c3_23.wp Tryz.prog (RetQ [.t 6] R) (init args) σ) : ACalls Tryz.prog 3 args σ R := acalls_of Tryz.func3 c3_ok hl h
end Go.A
namespace Go.A
open Go.Proofs Go.Lib
theorem TextsParts_any {σ : ASt} (hT : Tab σ) (hU : U8 σ) (s : List UInt8) (n k : Int) :
  ACalls Tryz.prog 3 [.str s, .int .i64 n, .int .i64 k] σ fun v σ' => v = .bool true ∧ σ' = σ := by
 have hA := xawake_ok hT hU
 have hc : Pure Tryz.prog 6 [.str s, .int .i64 200] (.str (s.take 200)) := cut_ok s 200
 have hl : (s.take 200).length ≤ 200 := by rw [List.length_take]; omega
 generalize s.take 200 = t at *
 have hG : Pure Tryz.prog 7 [.str t] (sgAV t) := rsigns_ok _ (by omega)
 unfold sgAV at hG
 cases hsg : sgT t with
 | none =>
   rw [hsg] at hG
   dsimp only at hG
   refine a3 (by simp) ?_
   simp (disch := first | assumption | omega) only [go_sem, reduceCtorEq, ↓reduceIte]
   refine hc.use ?_
   simp (disch := first | assumption | omega) only [go_sem, ↓reduceIte]
   refine hG.use ?_
   simp (disch := first | assumption | omega) only [go_sem, Nat.reduceEqDiff, ↓reduceIte]
   refine hA.mono ?_
   rintro v σ' ⟨rfl, rfl⟩
   simp (disch := first | assumption | omega) only [go_sem, ↓reduceIte]
   exact retC_by (.refl _) (.refl _) ⟨rfl, rfl⟩
 | some m =>
   rw [hsg] at hG
   dsimp only at hG
   obtain ⟨hw, hm⟩ := sgT_whole t m hsg
   have hpl := pcs_len t
   by_cases c1 : n < 0
   ·refine a3 (by simp) ?_
    simp (disch := first | assumption | omega) only [go_sem, reduceCtorEq, ↓reduceIte]
    refine hc.use ?_
    simp (disch := first | assumption | omega) only [go_sem, ↓reduceIte]
    refine hG.use ?_
    simp (disch := first | assumption | omega) only [go_sem, reduceCtorEq, Nat.reduceEqDiff, ↓reduceIte, c1]
    refine hA.mono ?_
    rintro v σ' ⟨rfl, rfl⟩
    simp (disch := first | assumption | omega) only [go_sem, ↓reduceIte]
    exact retC_by (.refl _) (.refl _) ⟨rfl, rfl⟩
   by_cases c2 : (m : Int) < n
   ·refine a3 (by simp) ?_
    simp (disch := first | assumption | omega) only [go_sem, reduceCtorEq, ↓reduceIte]
    refine hc.use ?_
    simp (disch := first | assumption | omega) only [go_sem, ↓reduceIte]
    refine hG.use ?_
    simp (disch := first | assumption | omega) only [go_sem, reduceCtorEq, Nat.reduceEqDiff, ↓reduceIte, c1, c2]
    refine hA.mono ?_
    rintro v σ' ⟨rfl, rfl⟩
    simp (disch := first | assumption | omega) only [go_sem, ↓reduceIte]
    exact retC_by (.refl _) (.refl _) ⟨rfl, rfl⟩
   by_cases c3 : k < 0
   ·refine a3 (by simp) ?_
    simp (disch := first | assumption | omega) only [go_sem, reduceCtorEq, ↓reduceIte]
    refine hc.use ?_
    simp (disch := first | assumption | omega) only [go_sem, ↓reduceIte]
    refine hG.use ?_
    simp (disch := first | assumption | omega) only [go_sem, reduceCtorEq, Nat.reduceEqDiff, ↓reduceIte, c1, c2, c3]
    refine hA.mono ?_
    rintro v σ' ⟨rfl, rfl⟩
    simp (disch := first | assumption | omega) only [go_sem, ↓reduceIte]
    exact retC_by (.refl _) (.refl _) ⟨rfl, rfl⟩
   by_cases c4 : (m : Int) - n < k
   ·refine a3 (by simp) ?_
    simp (disch := first | assumption | omega) only [go_sem, reduceCtorEq, ↓reduceIte]
    refine hc.use ?_
    simp (disch := first | assumption | omega) only [go_sem, ↓reduceIte]
    refine hG.use ?_
    simp (disch := first | assumption | omega) only [go_sem, reduceCtorEq, Nat.reduceEqDiff, ↓reduceIte, c1, c2, c3, c4]
    refine hA.mono ?_
    rintro v σ' ⟨rfl, rfl⟩
    simp (disch := first | assumption | omega) only [go_sem, ↓reduceIte]
    exact retC_by (.refl _) (.refl _) ⟨rfl, rfl⟩
   obtain ⟨N, rfl⟩ : ∃ N : Nat, n = (N : Int) := ⟨n.toNat, by omega⟩
   obtain ⟨K, rfl⟩ : ∃ K : Nat, k = (K : Int) := ⟨k.toNat, by omega⟩
   have hk1 := skipP_le t N
   have hk2 := skipP_le (t.drop (skipP t N)) K
   rw [List.length_drop] at hk2
   have e1 := lc_LEFT hT t (by omega) (n := N) (by omega) left_law
   have e2 := lc_RIGHT hT t (by omega) (n := (m : Int) - N) (by omega) (right_law hm (by omega))
   have e3 := lc_MID hT t (by omega) (n := (N : Int) + 1) (k := K) (by omega) (by omega) mid_law
   have e4 := lc_REPLACE hT t (by omega) [] (by decide) (n := (N : Int) + 1) (k := K) (by omega) (by omega) (cut_law' (by omega))
   have e5 := fun h1 h2 => lc_REPLACE hT (t.take (skipP t N) ++ (t.drop (skipP t N)).drop (skipP (t.drop (skipP t N)) K)) h1 ((t.drop (skipP t N)).take (skipP (t.drop (skipP t N)) K)) h2 (n := (N : Int) + 1) (k := 0) (by omega) (by omega) (back_law hw (by omega) (by omega))
   have e6 := lc_LEN hT t (by omega)
   rw [hm] at e6
   have l1 : (t.take (skipP t N)).length = skipP t N := by rw [List.length_take]; omega
   have l2 : (t.drop (skipP t N)).length = t.length - skipP t N := List.length_drop
   have l3 : ((t.drop (skipP t N)).take (skipP (t.drop (skipP t N)) K)).length = skipP (t.drop (skipP t N)) K := by rw [List.length_take]; omega
   have l4 : (t.take (skipP t N) ++ (t.drop (skipP t N)).drop (skipP (t.drop (skipP t N)) K)).length = skipP t N + (t.length - skipP t N - skipP (t.drop (skipP t N)) K) := by rw [List.length_append, l1, List.length_drop, l2]
   have e5 := e5 (by omega) (by omega)
   have hab : t.take (skipP t N) ++ t.drop (skipP t N) = t := List.take_append_drop _ _
   have hW := show_ok hT (numP m) (numP_good _)
   have n1 := num_call N (by omega) (by omega)
   have n2 := num_call ((m : Int) - N) (by omega) (by omega)
   have n3 := num_call ((N : Int) + 1) (by omega) (by omega)
   have n4 := num_call K (by omega) (by omega)
   have n5 := num_call 0 (by omega) (by omega)
   have n6 := num_call m (by omega) (by omega)
   generalize (t.drop (skipP t N)).take (skipP (t.drop (skipP t N)) K) = MID at *
   generalize t.take (skipP t N) ++ (t.drop (skipP t N)).drop (skipP (t.drop (skipP t N)) K) = CUT at *
   generalize t.take (skipP t N) = LE at *
   generalize t.drop (skipP t N) = RI at *
   have q1 := PV.av_cells (numP N)
   have q2 := PV.av_cells (numP ((m : Int) - N))
   have q3 := PV.av_cells (numP ((N : Int) + 1))
   have q4 := PV.av_cells (numP K)
   have q5 := PV.av_cells (numP 0)
   have b1 := PV.av_any (numP N)
   have b2 := PV.av_any (numP ((m : Int) - N))
   have b3 := PV.av_any (numP ((N : Int) + 1))
   have b4 := PV.av_any (numP K)
   have b5 := PV.av_any (numP 0)
   generalize showP (numP m) = SH at *
   generalize (numP N).av = V1 at *
   generalize (numP ((m : Int) - N)).av = V2 at *
   generalize (numP ((N : Int) + 1)).av = V3 at *
   generalize (numP K).av = V4 at *
   generalize (numP 0).av = V5 at *
   generalize (numP m).av = V6 at *
   unfold nLEFT at e1
   unfold nRIGHT at e2
   unfold nMID at e3
   unfold nREPLACE at e4 e5
   unfold nLEN at e6
   simp only [PV.av] at e4 e5
   have hlen : (CUT.length : Int) + MID.length = t.length := by omega
   refine a3 (by simp) ?_
   simp (disch := first | assumption | omega) only [go_sem, reduceCtorEq, ↓reduceIte]
   refine hc.use ?_
   simp (disch := first | assumption | omega) only [go_sem, ↓reduceIte]
   refine hG.use ?_
   simp (disch := first | assumption | omega) only [go_sem, reduceCtorEq, Nat.reduceEqDiff, ↓reduceIte, c1, c2, c3, c4]
   refine n1.use ?_
   simp (disch := first | assumption | omega) only [go_sem, Nat.reduceEqDiff, ↓reduceIte, Bool.true_and, q1, b1]
   refine ACalls.shr rfl (e1.mono ?_)
   rintro v σ' ⟨rfl, rfl⟩
   simp (disch := first | assumption | omega) only [go_sem, reduceCtorEq, Nat.reduceEqDiff, ↓reduceIte]
   refine n2.use ?_
   simp (disch := first | assumption | omega) only [go_sem, Nat.reduceEqDiff, ↓reduceIte, Bool.true_and, q2, b2]
   refine ACalls.shr rfl (e2.mono ?_)
   rintro v σ' ⟨rfl, rfl⟩
   simp (disch := first | assumption | omega) only [go_sem, reduceCtorEq, Nat.reduceEqDiff, ↓reduceIte]
   refine n3.use ?_
   simp (disch := first | assumption | omega) only [go_sem, reduceCtorEq, Nat.reduceEqDiff, ↓reduceIte]
   refine n4.use ?_
   simp (disch := first | assumption | omega) only [go_sem, Nat.reduceEqDiff, ↓reduceIte, Bool.true_and, q3, b3, q4, b4]
   refine ACalls.shr rfl (e3.mono ?_)
   rintro v σ' ⟨rfl, rfl⟩
   simp (disch := first | assumption | omega) only [go_sem, reduceCtorEq, Nat.reduceEqDiff, ↓reduceIte]
   refine n3.use ?_
   simp (disch := first | assumption | omega) only [go_sem, reduceCtorEq, Nat.reduceEqDiff, ↓reduceIte]
   refine n4.use ?_
   simp (disch := first | assumption | omega) only [go_sem, Nat.reduceEqDiff, ↓reduceIte, Bool.true_and, q3, b3, q4, b4]
   refine ACalls.shr rfl (e4.mono ?_)
   rintro v σ' ⟨rfl, rfl⟩
   simp (disch := first | assumption | omega) only [go_sem, reduceCtorEq, Nat.reduceEqDiff, ↓reduceIte]
   refine n3.use ?_
   simp (disch := first | assumption | omega) only [go_sem]
   refine n5.use ?_
   simp (disch := first | assumption | omega) only [go_sem, Nat.reduceEqDiff, ↓reduceIte, Bool.true_and, q3, b3, q5, b5]
   refine ACalls.shr rfl (e5.mono ?_)
   rintro v σ' ⟨rfl, rfl⟩
   simp (disch := first | assumption | omega) only [go_sem, ↓reduceIte]
   refine hA.mono ?_
   rintro v σ' ⟨rfl, rfl⟩
   simp (disch := first | assumption | omega) only [go_sem, reduceCtorEq, Nat.reduceEqDiff, ↓reduceIte, hab]
   refine ACalls.shr rfl (e6.mono ?_)
   rintro v σ' ⟨rfl, rfl⟩
   simp (disch := first | assumption | omega) only [go_sem, Nat.reduceEqDiff, ↓reduceIte]
   refine n6.use ?_
   simp (disch := first | assumption | omega) only [go_sem, Nat.reduceEqDiff, ↓reduceIte]
   refine hW.mono ?_
   rintro v σ' ⟨rfl, rfl⟩
   simp (disch := first | assumption | omega) only [go_sem, reduceCtorEq, Nat.reduceEqDiff, ↓reduceIte, hlen]
   exact retC_by (.refl _) (.refl _) ⟨rfl, rfl⟩
end Go.A
namespace Go.Proofs.YteldgfhpffjdcaaGreatDoor
open Go Go.ChangeShapes Go.WideShapes Go.ChangeAt Go.RowKit Go.A Go.Lib Go.Shelf
theorem row_own : ownKnob Tryz.prog.godebug = none := by kernel_rfl
theorem row_laid : laidOutB Tryz.prog = true := by kernel_rfl
theorem first_eq : Rows.laid_unicode_utf8_first = firstData := by kernel_rfl
theorem acc_eq : (Rows.laid_unicode_utf8_acceptRanges : DataW Unit) = acceptData := by kernel_rfl
theorem u8_extra : U8Extra Tryz.prog Tryz.lays260_ren := ⟨by kernel_rfl, by kernel_rfl, by kernel_rfl, by kernel_rfl, by kernel_rfl, by kernel_rfl, by kernel_rfl⟩
theorem var_size {P : Program} {w : World} {n : String} {d : DataW Unit} (h : VarReads P w n d) {g : Nat} (hg : P.globalNamed n = some g) {t e : TypeId} {k : Nat} (hty : (P.globals[g]?).map (·.type) = some t) (ht : P.underlying t = some (.array k e)) :
  ∃ cs T fr, w.heap[g]? = some (.cells cs T fr) ∧ cs.size = P.cellsOf t := by
 obtain ⟨g', t', cs, fuel, p, hg', hty', hvar, hd⟩ := h
 obtain rfl := Option.some.inj (hg.symm.trans hg')
 obtain rfl := Option.some.inj (hty.symm.trans hty')
 have hlen : cs.toList.length = P.cellsOf t := by
  cases fuel with
  | zero => simp [DataW.trod] at hd
  | succ fuel =>
    simp only [DataW.trod, ht] at hd
    split at hd
    ·assumption
    ·cases hd
 unfold World.var? at hvar
 rw [hg, Option.bind_some] at hvar
 split at hvar
 ·rename_i cs' T fr hheap
  injection hvar with hvar
  subst hvar
  exact ⟨_, _, _, hheap, by simpa using hlen⟩
 ·cases hvar
theorem ints_reps {σ : ASt} {w : World} {k : IntKind} : ∀ zs : List Int, Reps σ w (zs.map (AV.int k)) (zs.map (Value.int k))
 | [] => .nil
 | z :: zs => .cons (.int k z) (ints_reps zs)
theorem fix_ok {σ : ASt} {W : World} {b : Nat} {zs : List Int} (hs : σ b = some (.fix (zs.map (AV.int .u8)))) {cs : Array Value} {T : TypeId} {fr : Nat × Nat} (hh : W.heap[b]? = some (.cells cs T fr)) (hsz : cs.size = zs.length)
  (hc : ∀ j z, zs[j]? = some z → W.cell? ⟨b, j, none⟩ = some (.int .u8 z)) : RoleOk σ W b (.fix (zs.map (AV.int .u8))) := by
 have hlt : b < W.heap.size := (Array.getElem?_eq_some_iff.1 hh).1
 refine ⟨At.mk' (ints_reps _) (fun j _ => ⟨hlt, .inr (.inl ⟨_, hs⟩)⟩) (fun j v hj => ?_), cs, T, fr, hh, by simpa using hsz⟩
 rw [List.getElem?_map] at hj
 obtain ⟨z, hz, rfl⟩ := Option.map_eq_some_iff.1 hj
 rw [Nat.zero_add]
 exact hc j z hz
def stOf : List (Nat × List AV) → ASt
 | [], _ => none
 | p :: ps, b => if b = p.1 then some (.fix p.2) else stOf ps b
theorem stOf_fix : ∀ {ps : List (Nat × List AV)} {b : Nat} {r : Role}, stOf ps b = some r → ∃ l, r = .fix l
 | [], _, _, h => by cases h
 | p :: ps, b, r, h => by
   simp only [stOf] at h
   split at h
   ·injection h with h; exact ⟨_, h.symm⟩
   ·exact stOf_fix h
theorem stOf_mem : ∀ {ps : List (Nat × List AV)} {b : Nat} {r : Role}, stOf ps b = some r → ∃ l, (b, l) ∈ ps ∧ r = .fix l
 | [], _, _, h => by cases h
 | p :: ps, b, r, h => by
   simp only [stOf] at h
   split at h
   ·rename_i hb
    injection h with h
    subst hb
    exact ⟨p.2, List.mem_cons_self, h.symm⟩
   ·obtain ⟨l, hl, he⟩ := stOf_mem h
    exact ⟨l, List.mem_cons_of_mem _ hl, he⟩
theorem still_fix {σ : ASt} (hfx : ∀ b r, σ b = some r → ∃ l, r = .fix l) {w : World} {b o : Nat} (h : b < w.heap.size) : Still σ w b o := by
 refine ⟨h, ?_⟩
 cases hb : σ b with
 | none => exact .inl rfl
 | some r => obtain ⟨l, rfl⟩ := hfx b r hb; exact .inr (.inl ⟨_, rfl⟩)
end Go.Proofs.YteldgfhpffjdcaaGreatDoor
namespace Go.A
section
variable {σ : ASt} {w : World}
theorem Still.fixed (hfx : ∀ b r, σ b = some r → ∃ l, r = .fix l) {b o : Nat} (h : Still noRole w b o) : Still σ w b o := by
 refine ⟨h.1, ?_⟩
 cases hb : σ b with
 | none => exact .inl rfl
 | some r => obtain ⟨l, rfl⟩ := hfx b r hb; exact .inr (.inl ⟨_, rfl⟩)
theorem Stands.fixed (hfx : ∀ b r, σ b = some r → ∃ l, r = .fix l) (b : Nat) : Stands σ b := by
 refine ⟨fun cs h => ?_, fun l p h => ?_, fun T cs h => ?_⟩ <;> (obtain ⟨l, hl⟩ := hfx b _ h; cases hl)
theorem SK.ok_fixed (hfx : ∀ b r, σ b = some r → ∃ l, r = .fix l) {k : SK} {b o n c sz : Nat} (h : k.ok noRole w b o n c sz) : k.ok σ w b o n c sz := by
 cases k with
 | shr => trivial
 | full => exact h
 | tok t s T => exact ⟨h.1, h.2.1, h.2.2.1, h.2.2.2.1, Stands.fixed hfx b⟩
mutual
theorem Rep.fixed (hfx : ∀ b r, σ b = some r → ∃ l, r = .fix l) : ∀ {a : AV} {v : Value}, Rep noRole w a v → Rep σ w a v
 | _, _, .any v => .any v
 | _, _, .bool b => .bool b
 | _, _, .int k n => .int k n
 | _, _, .str l => .str l
 | _, _, .ptr b o => .ptr b o
 | _, _, .imm h1 => .imm (h1.fixed hfx)
 | _, _, .nilp => .nilp
 | _, _, .slE A c => .slE A c
 | _, _, .slN => .slN
 | _, _, .sl h1 h2 h3 h4 h5 => .sl (h1.fixed hfx) h2 h3 (SK.ok_fixed hfx h4) h5
 | _, _, .msl b o n c => .msl b o n c
 | _, _, .agg h1 => .agg (h1.fixed hfx)
 | _, _, .tuple h1 => .tuple (h1.fixed hfx)
 | _, _, .iface h1 => .iface (h1.fixed hfx)
 | _, _, .nili => .nili
 | _, _, .func h1 h2 => .func (h1.fixed hfx) (h2.fixed hfx)
 | _, _, .nilf => .nilf
theorem Reps.fixed (hfx : ∀ b r, σ b = some r → ∃ l, r = .fix l) : ∀ {avs : List AV} {vs : List Value}, Reps noRole w avs vs → Reps σ w avs vs
 | _, _, .nil => .nil
 | _, _, .cons h1 h2 => .cons (h1.fixed hfx) (h2.fixed hfx)
theorem At.fixed (hfx : ∀ b r, σ b = some r → ∃ l, r = .fix l) : ∀ {b o : Nat} {avs : List AV}, At noRole w b o avs → At σ w b o avs
 | _, _, _, .nil b o => .nil b o
 | _, _, _, .cons h1 h2 h3 h4 => .cons (h1.fixed hfx) h2 (h3.fixed hfx) (h4.fixed hfx)
theorem Row.fixed (hfx : ∀ b r, σ b = some r → ∃ l, r = .fix l) : ∀ {b o sz : Nat} {avs : List AV}, Row noRole w b o sz avs → Row σ w b o sz avs
 | _, _, _, _, .nil b o sz => .nil b o sz
 | _, _, _, _, .cons h1 h2 h3 => .cons h1 (h2.fixed hfx) (h3.fixed hfx)
end
end
end Go.A
namespace Go.Proofs.YteldgfhpffjdcaaGreatDoor
open Go Go.ChangeShapes Go.WideShapes Go.ChangeAt Go.RowKit Go.A Go.Lib Go.Shelf
theorem u8_roles {σ : ASt} {W : World} (h3 : VarReads Tryz.prog W "unicode/utf8.first" firstData) (h4 : VarReads Tryz.prog W "unicode/utf8.acceptRanges" acceptData) :
  (σ 2 = some (.fix (firstTab.map (AV.int .u8))) → RoleOk σ W 2 (.fix (firstTab.map (AV.int .u8)))) ∧ (σ 3 = some (.fix (accTab.map (AV.int .u8))) → RoleOk σ W 3 (.fix (accTab.map (AV.int .u8)))) := by
 have hT := utf8Tabs_of_reads (ρ := Tryz.lays260_ren) Tryz.lays260 u8_extra h3 h4
 obtain ⟨hT1, hT2⟩ := hT
 have hT1 : ∀ c, c < 256 → W.cell? ⟨2, c, none⟩ = some (.int .u8 (firstT c)) := hT1
 have hT2 : ∀ i, i < 16 → W.cell? ⟨3, 2 * i, none⟩ = some (.int .u8 (accLo i)) ∧ W.cell? ⟨3, 2 * i + 1, none⟩ = some (.int .u8 (accHi i)) := hT2
 constructor
 ·intro hs
  obtain ⟨cs, T, fr, hh, hsz⟩ := var_size h3 (g := 2) (by kernel_rfl) u8_extra.y3 (Tryz.lays260.t119)
  refine fix_ok hs hh (hsz.trans (by kernel_rfl)) fun j z hj => ?_
  have hl := (List.getElem?_eq_some_iff.1 hj).1
  simp only [firstTab, List.length_map, List.length_range] at hl
  simp only [firstTab, List.getElem?_map, List.getElem?_range hl, Option.map_some, Option.some.injEq] at hj
  subst hj
  exact hT1 j hl
 ·intro hs
  obtain ⟨cs, T, fr, hh, hsz⟩ := var_size h4 (g := 3) (by kernel_rfl) u8_extra.y4 (Tryz.lays260.t139)
  refine fix_ok hs hh (hsz.trans (by kernel_rfl)) fun j z hj => ?_
  have hl := (List.getElem?_eq_some_iff.1 hj).1
  have key : ∀ j, j < 32 → accTab[j]? = some (if j % 2 = 0 then (accLo (j / 2) : Int) else accHi (j / 2)) := by decide
  have hl : j < 32 := hl
  rw [key j hl] at hj
  injection hj with hj
  subst hj
  obtain ⟨g1, g2⟩ := hT2 (j / 2) (by omega)
  split
  ·rw [show 2 * (j / 2) = j by omega] at g1; exact g1
  ·rw [show 2 * (j / 2) + 1 = j by omega] at g2; exact g2
theorem pow_role {σ : ASt} {W : World} (hfx : ∀ b r, σ b = some r → ∃ l, r = .fix l) (h3 : VarReads Tryz.prog W "internal/strconv.uint64pow10" (Lib.tabData .u64 Lib.pow10Tab)) :
  RoleOk σ W 1 (.fix (Lib.pow10Tab.map (AV.int .u64))) := by
 obtain ⟨g', t', cs, fuel, p, hg', ht', hvar, hd⟩ := h3
 obtain rfl := Option.some.inj ((show Tryz.prog.globalNamed "internal/strconv.uint64pow10" = some 1 by kernel_rfl).symm.trans hg')
 obtain rfl := Option.some.inj ((show (Tryz.prog.globals[1]?).map (·.type) = some 154 by kernel_rfl).symm.trans ht')
 have hcs := cells_of_tab (n := 20) (e := 70) (k := .u64) (by kernel_rfl) (by kernel_rfl) (by kernel_rfl) (by kernel_rfl) hd
 unfold World.var? at hvar
 rw [show Tryz.prog.globalNamed "internal/strconv.uint64pow10" = some 1 by kernel_rfl, Option.bind_some] at hvar
 split at hvar
 ·rename_i cs' T fr hheap
  injection hvar with hvar
  have hlt : 1 < W.heap.size := (Array.getElem?_eq_some_iff.1 hheap).1
  have he : cs' = (Lib.pow10Tab.map fun z => Value.int .u64 z).toArray := by rw [hvar]; exact Array.ext' (by simpa using hcs)
  refine ⟨At.mk' (ints_reps _) (fun j _ => still_fix hfx hlt) (fun j v hj => ?_), cs', T, fr, hheap, by rw [he]; simp⟩
  simp only [World.cell?, hheap, Nat.zero_add, he]
  simpa using hj
 ·cases hvar
theorem calls_st {ps : List (Nat × List AV)} {f : FuncId} {args : List AV} {vs : List Value} {w : World} (h : ACalls Tryz.prog f args (stOf ps) fun r σ' => r = .bool true ∧ σ' = stOf ps) (hs : Sim (stOf ps) w) (hr : Reps (stOf ps) w args vs) :
  Calls Tryz.prog f ⟨vs⟩ w fun e w' => e = .returned (.bool true) ∧ Ext w w' :=
 (h w vs hs hr).mono fun e w' ⟨u, r, σ', he, ⟨hrt, hst⟩, hle, _, hrep⟩ => by
  subst hrt hst
  cases hrep
  refine ⟨he, Ext.of_below ⟨hle.os, hle.tape, hle.output, hle.size, fun k hk => ?_⟩⟩
  cases hn : stOf ps k with
  | none => exact (hle.keep k hk hn).2
  | some r =>
    obtain ⟨l, rfl⟩ := stOf_fix hn
    exact (hle.fix k _ hk hn).2
end Go.Proofs.YteldgfhpffjdcaaGreatDoor
namespace Go.Proofs.YteldgfhpffjdcaaGreatDoor
open Go Go.ChangeShapes Go.WideShapes Go.ChangeAt Go.RowKit Go.A Go.Lib Go.Shelf
def laidU : List (String × DataW Unit) := [("math/bits.deBruijn32tab", Rows.laid_math_bits_deBruijn32tab), ("math/bits.deBruijn64tab", Rows.laid_math_bits_deBruijn64tab), ("internal/strconv.uint64pow10", Rows.laid_internal_strconv_uint64pow10), ("unicode/utf8.acceptRanges", Rows.laid_unicode_utf8_acceptRanges), ("tabular/deci.tens", Rows.laid_tabular_deci_tens), ("unicode/utf8.first", Rows.laid_unicode_utf8_first)]
def uPs : List (Nat × List AV) := [(2, firstTab.map (AV.int .u8)), (3, accTab.map (AV.int .u8)), (1, Lib.pow10Tab.map (AV.int .u64))]
def uSt : ASt := stOf uPs
theorem uSt_u8 : U8 uSt := ⟨by simp [uSt, uPs, stOf], by simp [uSt, uPs, stOf]⟩
theorem uSt_tab : Tab uSt := by simp [Tab, uSt, uPs, stOf]
theorem u_sim {W : World} (h : laidMetH Tryz.prog laidU W) : Sim uSt W := by
 rw [MakeChecks.laidMetH_plain _ _ _ (by kernel_rfl)] at h
 have hp : VarReads Tryz.prog W "internal/strconv.uint64pow10" (Lib.tabData .u64 Lib.pow10Tab) := Lib.laidMet.reads h (.tail _ (.tail _ (.head _)))
 have h4 : VarReads Tryz.prog W "unicode/utf8.acceptRanges" acceptData := acc_eq ▸ Lib.laidMet.reads h (.tail _ (.tail _ (.tail _ (.head _))))
 have h3 : VarReads Tryz.prog W "unicode/utf8.first" firstData := first_eq ▸ Lib.laidMet.reads h (.tail _ (.tail _ (.tail _ (.tail _ (.tail _ (.head _))))))
 obtain ⟨r1, r2⟩ := u8_roles (σ := uSt) h3 h4
 intro b r hb
 obtain ⟨l, hl, rfl⟩ := stOf_mem hb
 simp only [uPs, List.mem_cons, List.not_mem_nil, or_false, Prod.mk.injEq] at hl
 rcases hl with ⟨rfl, rfl⟩ | ⟨rfl, rfl⟩ | ⟨rfl, rfl⟩
 ·exact r1 uSt_u8.1
 ·exact r2 uSt_u8.2
 ·exact pow_role (fun _ _ => stOf_fix) hp
theorem calls_u {f : FuncId} {args : List AV} {vs : List Value} {w : World} (h : ACalls Tryz.prog f args uSt fun r σ' => r = .bool true ∧ σ' = uSt) (hs : Sim uSt w) (hr : Reps uSt w args vs) :
  Calls Tryz.prog f ⟨vs⟩ w fun e w' => e = .returned (.bool true) ∧ Ext w w' := calls_st h hs hr
end Go.Proofs.YteldgfhpffjdcaaGreatDoor
