/- Part 9 of what ExprBack leans on: CodeVe Ve CodeVf Vf Vke CodeZk. -/
import Derived.Test.YtennoafgkkoeaaaGreatDoorProg
import Derived.KernelRfl
import Derived.Test.YtennoafgkkoeaaaGreatDoorZExprBackh
namespace Go.A
open Go.Proofs
/-! 27: tabular/vint.Read -/
def c27_0 : ACode := .ops [
 ⟨some 2, none, .q (.mv (.v .nilp)), []⟩]
def c27_1 : ACode := .ops [
 ⟨some 3, none, .q (.mv (.t 0)), []⟩,
 ⟨some 4, none, .q (.build [(.str []), (.int .i64 0), (.int .i64 0)] [(0, 1, (.t 3))]), []⟩,
 ⟨some 5, none, .e (.box (.t 4)), []⟩,
 ⟨some 2, none, .q (.mv (.t 5)), []⟩]
def c27_2 : ACode := .seq c27_1 .ret
def c27_3 : ACode := .seq c27_0 c27_2
@[go_sem] theorem c27_0_wp : type_of% (wp_of c27_0.eq_1) := wp_of c27_0.eq_1
@[go_sem] theorem c27_1_wp : type_of% (wp_of c27_1.eq_1) := wp_of c27_1.eq_1
@[go_sem] theorem c27_2_wp : type_of% (wp_of c27_2.eq_1) := wp_of c27_2.eq_1
@[go_sem] theorem c27_3_wp : type_of% (wp_of c27_3.eq_1) := wp_of c27_3.eq_1
def c27 : AFn := ⟨6, [.t 2], c27_3⟩
set_option maxRecDepth 100000 in
theorem c27_ok : compF Tryz.prog Tryz.f27 = some c27 := by kernel_rfl
theorem a27 {args : List AV} {σ : ASt} {R : AV → ASt → Prop} (hl : args.length ≤ 6) (h : c27_3.wp Tryz.prog (RetQ [.t 2] R) (init args) σ) : ACalls Tryz.prog 27 args σ R := acalls_of Tryz.func27 c27_ok hl h
/-! 29: (*tabular/vint.Reader).At -/
/-! 30: (*tabular/vint.Reader).Done -/
def c30_0 : ACode := .ops [
 ⟨some 2, none, .q (.mv (.v (.int .i64 0))), []⟩]
def c30_1 : ACode := .ops [
 ⟨some 3, none, .q (.mv (.t 0)), []⟩,
 ⟨some 4, none, .q (.nc (.t 3)), []⟩,
 ⟨some 5, none, .q (.fa 1 (.t 4)), []⟩,
 ⟨some 6, none, .q (.ld none (.t 5)), []⟩,
 ⟨some 7, none, .q (.mv (.t 0)), []⟩,
 ⟨some 8, none, .q (.nc (.t 7)), []⟩,
 ⟨some 9, none, .q (.fa 0 (.t 8)), []⟩,
 ⟨some 10, none, .q (.ld none (.t 9)), []⟩,
 ⟨some 11, none, .q (.lenS (.t 10)), []⟩,
 ⟨some 12, none, .q (.bin .lss (.t 6) (.t 11)), []⟩]
def c30_2 : ACode := .ops [
 ⟨some 13, none, .q (.mv (.t 0)), []⟩,
 ⟨some 14, none, .e (.call 53 [(.t 13), (.v (.int .i64 3))]), []⟩]
def c30_3 : ACode := .cond (.t 12) c30_2 .skip
def c30_4 : ACode := .seq c30_1 c30_3
def c30_5 : ACode := .ops [
 ⟨some 15, none, .q (.mv (.t 0)), []⟩,
 ⟨some 16, none, .q (.nc (.t 15)), []⟩,
 ⟨some 17, none, .q (.fa 2 (.t 16)), []⟩,
 ⟨some 18, none, .q (.ld none (.t 17)), []⟩,
 ⟨some 2, none, .q (.mv (.t 18)), []⟩]
def c30_6 : ACode := .seq c30_5 .ret
def c30_7 : ACode := .seq c30_4 c30_6
def c30_8 : ACode := .seq c30_0 c30_7
@[go_sem] theorem c30_0_wp : type_of% (wp_of c30_0.eq_1) := wp_of c30_0.eq_1
@[go_sem] theorem c30_1_wp : type_of% (wp_of c30_1.eq_1) := wp_of c30_1.eq_1
@[go_sem] theorem c30_2_wp : type_of% (wp_of c30_2.eq_1) := wp_of c30_2.eq_1
@[go_sem] theorem c30_3_wp : type_of% (wp_of c30_3.eq_1) := wp_of c30_3.eq_1
@[go_sem] theorem c30_4_wp : type_of% (wp_of c30_4.eq_1) := wp_of c30_4.eq_1
@[go_sem] theorem c30_5_wp : type_of% (wp_of c30_5.eq_1) := wp_of c30_5.eq_1
@[go_sem] theorem c30_6_wp : type_of% (wp_of c30_6.eq_1) := wp_of c30_6.eq_1
@[go_sem] theorem c30_7_wp : type_of% (wp_of c30_7.eq_1) := wp_of c30_7.eq_1
@[go_sem] theorem c30_8_wp : type_of% (wp_of c30_8.eq_1) := wp_of c30_8.eq_1
def c30 : AFn := ⟨19, [.t 2], c30_8⟩
set_option maxRecDepth 100000 in
theorem c30_ok : compF Tryz.prog Tryz.f30 = some c30 := by kernel_rfl
theorem a30 {args : List AV} {σ : ASt} {R : AV → ASt → Prop} (hl : args.length ≤ 19) (h : c30_8.wp Tryz.prog (RetQ [.t 2] R) (init args) σ) : ACalls Tryz.prog 30 args σ R := acalls_of Tryz.func30 c30_ok hl h
/-! 53: (*tabular/vint.Reader).fail -/
def c53_0 : ACode := .ops [
 ⟨some 4, none, .q (.mv (.t 0)), []⟩,
 ⟨some 5, none, .q (.nc (.t 4)), []⟩,
 ⟨some 6, none, .q (.fa 2 (.t 5)), []⟩,
 ⟨some 7, none, .q (.ld none (.t 6)), []⟩,
 ⟨some 8, none, .q (.bin .eql (.t 7) (.v (.int .i64 0))), []⟩]
def c53_1 : ACode := .ops [
 ⟨some 9, none, .q (.mv (.t 0)), []⟩,
 ⟨some 10, none, .q (.mv (.t 1)), []⟩,
 ⟨some 11, none, .q (.nc (.t 9)), []⟩,
 ⟨some 12, none, .q (.fa 2 (.t 11)), []⟩,
 ⟨none, none, .e (.store 1 (.t 12) (.t 10)), []⟩]
def c53_2 : ACode := .cond (.t 8) c53_1 .skip
def c53_3 : ACode := .seq c53_0 c53_2
@[go_sem] theorem c53_0_wp : type_of% (wp_of c53_0.eq_1) := wp_of c53_0.eq_1
@[go_sem] theorem c53_1_wp : type_of% (wp_of c53_1.eq_1) := wp_of c53_1.eq_1
@[go_sem] theorem c53_2_wp : type_of% (wp_of c53_2.eq_1) := wp_of c53_2.eq_1
@[go_sem] theorem c53_3_wp : type_of% (wp_of c53_3.eq_1) := wp_of c53_3.eq_1
def c53 : AFn := ⟨13, [], c53_3⟩
set_option maxRecDepth 100000 in
theorem c53_ok : compF Tryz.prog Tryz.f53 = some c53 := by kernel_rfl
theorem a53 {args : List AV} {σ : ASt} {R : AV → ASt → Prop} (hl : args.length ≤ 13) (h : c53_3.wp Tryz.prog (RetQ [] R) (init args) σ) : ACalls Tryz.prog 53 args σ R := acalls_of Tryz.func53 c53_ok hl h
/-! 71: (*tabular/vint.Reader).Uint -/
def c71_0 : ACode := .ops [
 ⟨some 2, none, .q (.mv (.v (.int .u64 0))), []⟩]
def c71_1 : ACode := .ops [
 ⟨some 3, none, .q (.mv (.v (.int .u64 0))), []⟩]
def c71_2 : ACode := .ops [
 ⟨some 4, none, .q (.mv (.v (.int .i64 0))), []⟩]
def c71_3 : ACode := .ops [
 ⟨some 6, none, .q (.mv (.t 0)), []⟩,
 ⟨some 7, none, .q (.nc (.t 6)), []⟩,
 ⟨some 8, none, .q (.fa 2 (.t 7)), []⟩,
 ⟨some 9, none, .q (.ld none (.t 8)), []⟩,
 ⟨some 10, none, .q (.bin .eql (.t 9) (.v (.int .i64 0))), []⟩]
def c71_4 : ACode := .cond (.t 10) .skip (.exit 0)
def c71_5 : ACode := .seq c71_3 c71_4
def c71_6 : ACode := .ops [
 ⟨some 13, none, .q (.mv (.t 0)), []⟩,
 ⟨some 14, none, .q (.nc (.t 13)), []⟩,
 ⟨some 15, none, .q (.fa 1 (.t 14)), []⟩,
 ⟨some 16, none, .q (.ld none (.t 15)), []⟩,
 ⟨some 17, none, .q (.mv (.t 4)), []⟩,
 ⟨some 18, none, .q (.bin .add (.t 16) (.t 17)), []⟩,
 ⟨some 19, none, .q (.mv (.t 0)), []⟩,
 ⟨some 20, none, .q (.nc (.t 19)), []⟩,
 ⟨some 21, none, .q (.fa 0 (.t 20)), []⟩,
 ⟨some 22, none, .q (.ld none (.t 21)), []⟩,
 ⟨some 23, none, .q (.lenS (.t 22)), []⟩,
 ⟨some 24, none, .q (.bin .geq (.t 18) (.t 23)), []⟩]
def c71_7 : ACode := .ops [
 ⟨some 25, none, .q (.mv (.t 0)), []⟩,
 ⟨some 26, none, .e (.call 53 [(.t 25), (.v (.int .i64 2))]), []⟩]
def c71_8 : ACode := .seq c71_7 (.exit 0)
def c71_9 : ACode := .cond (.t 24) c71_8 .skip
def c71_10 : ACode := .seq c71_6 c71_9
def c71_11 : ACode := .ops [
 ⟨some 27, none, .q (.mv (.t 0)), []⟩,
 ⟨some 28, none, .q (.nc (.t 27)), []⟩,
 ⟨some 29, none, .q (.fa 0 (.t 28)), []⟩,
 ⟨some 30, none, .q (.ld none (.t 29)), []⟩,
 ⟨some 31, none, .q (.mv (.t 0)), []⟩,
 ⟨some 32, none, .q (.nc (.t 31)), []⟩,
 ⟨some 33, none, .q (.fa 1 (.t 32)), []⟩,
 ⟨some 34, none, .q (.ld none (.t 33)), []⟩,
 ⟨some 35, none, .q (.mv (.t 4)), []⟩,
 ⟨some 36, none, .q (.bin .add (.t 34) (.t 35)), []⟩,
 ⟨some 37, none, .q (.idx (.t 30) (.t 36)), []⟩,
 ⟨some 5, none, .q (.mv (.t 37)), []⟩]
def c71_12 : ACode := .ops [
 ⟨some 38, none, .q (.mv (.t 4)), []⟩,
 ⟨some 39, none, .q (.bin .eql (.t 38) (.v (.int .i64 9))), []⟩,
 ⟨some 40, none, .q (.mv (.t 39)), []⟩,
 ⟨some 41, some (40, true), .q (.mv (.t 5)), []⟩,
 ⟨some 42, some (40, true), .q (.bin .gtr (.t 41) (.v (.int .u8 1))), []⟩,
 ⟨some 43, none, .q (.pick (.t 40) (.t 42) (.v (.bool false))), []⟩,
 ⟨some 44, none, .q (.mv (.t 43)), []⟩,
 ⟨some 45, some (44, false), .q (.mv (.t 4)), []⟩,
 ⟨some 46, some (44, false), .q (.bin .gtr (.t 45) (.v (.int .i64 0))), []⟩,
 ⟨some 47, some (44, false), .q (.mv (.t 46)), []⟩,
 ⟨some 48, some (47, true), .q (.mv (.t 5)), []⟩,
 ⟨some 49, some (47, true), .q (.bin .eql (.t 48) (.v (.int .u8 0))), []⟩,
 ⟨some 50, some (44, false), .q (.pick (.t 47) (.t 49) (.v (.bool false))), []⟩,
 ⟨some 51, none, .q (.pick (.t 44) (.v (.bool true)) (.t 50)), []⟩]
def c71_13 : ACode := .ops [
 ⟨some 52, none, .q (.mv (.t 0)), []⟩,
 ⟨some 53, none, .e (.call 53 [(.t 52), (.v (.int .i64 3))]), []⟩]
def c71_14 : ACode := .seq c71_13 (.exit 0)
def c71_15 : ACode := .cond (.t 51) c71_14 .skip
def c71_16 : ACode := .seq c71_12 c71_15
def c71_17 : ACode := .ops [
 ⟨some 54, none, .q (.mv (.t 3)), []⟩,
 ⟨some 55, none, .q (.mv (.t 5)), []⟩,
 ⟨some 56, none, .q (.bin .and (.t 55) (.v (.int .u8 127))), []⟩,
 ⟨some 57, none, .q (.conv .u64 (.t 56)), []⟩,
 ⟨some 58, none, .q (.mv (.t 4)), []⟩,
 ⟨some 59, none, .q (.bin .mul (.v (.int .i64 7)) (.t 58)), []⟩,
 ⟨some 60, none, .q (.bin .shl (.t 57) (.t 59)), []⟩,
 ⟨some 61, none, .q (.bin .or (.t 54) (.t 60)), []⟩,
 ⟨some 3, none, .q (.mv (.t 61)), []⟩]
def c71_18 : ACode := .ops [
 ⟨some 62, none, .q (.mv (.t 5)), []⟩,
 ⟨some 63, none, .q (.bin .lss (.t 62) (.v (.int .u8 128))), []⟩]
def c71_19 : ACode := .ops [
 ⟨some 64, none, .q (.mv (.t 0)), []⟩,
 ⟨some 65, none, .q (.nc (.t 64)), []⟩,
 ⟨some 66, none, .q (.fa 1 (.t 65)), []⟩,
 ⟨some 67, none, .q (.ld none (.t 66)), []⟩,
 ⟨some 68, none, .q (.mv (.t 4)), []⟩,
 ⟨some 69, none, .q (.bin .add (.t 68) (.v (.int .i64 1))), []⟩,
 ⟨some 70, none, .q (.bin .add (.t 67) (.t 69)), []⟩,
 ⟨some 71, none, .q (.nc (.t 64)), []⟩,
 ⟨some 72, none, .q (.fa 1 (.t 71)), []⟩,
 ⟨none, none, .e (.store 1 (.t 72) (.t 70)), []⟩]
def c71_20 : ACode := .ops [
 ⟨some 73, none, .q (.mv (.t 3)), []⟩,
 ⟨some 2, none, .q (.mv (.t 73)), []⟩]
def c71_21 : ACode := .seq c71_20 .ret
def c71_22 : ACode := .seq c71_19 c71_21
def c71_23 : ACode := .cond (.t 63) c71_22 .skip
def c71_24 : ACode := .seq c71_18 c71_23
def c71_25 : ACode := .seq c71_17 c71_24
def c71_26 : ACode := .seq c71_16 c71_25
def c71_27 : ACode := .seq c71_11 c71_26
def c71_28 : ACode := .seq c71_10 c71_27
def c71_29 : ACode := .block 1 c71_28
def c71_30 : ACode := .ops [
 ⟨some 11, none, .q (.mv (.t 4)), []⟩,
 ⟨some 12, none, .q (.bin .add (.t 11) (.v (.int .i64 1))), []⟩,
 ⟨some 4, none, .q (.mv (.t 12)), []⟩]
def c71_31 : ACode := .seq c71_29 c71_30
def c71_32 : ACode := .seq c71_5 c71_31
def c71_33 : ACode := .loop c71_32
def c71_34 : ACode := .block 0 c71_33
def c71_35 : ACode := .seq c71_2 c71_34
def c71_36 : ACode := .ops [
 ⟨some 2, none, .q (.mv (.v (.int .u64 0))), []⟩]
def c71_37 : ACode := .seq c71_36 .ret
def c71_38 : ACode := .seq c71_35 c71_37
def c71_39 : ACode := .seq c71_1 c71_38
def c71_40 : ACode := .seq c71_0 c71_39
@[go_sem] theorem c71_0_wp : type_of% (wp_of c71_0.eq_1) := wp_of c71_0.eq_1
@[go_sem] theorem c71_1_wp : type_of% (wp_of c71_1.eq_1) := wp_of c71_1.eq_1
@[go_sem] theorem c71_2_wp : type_of% (wp_of c71_2.eq_1) := wp_of c71_2.eq_1
@[go_sem] theorem c71_3_wp : type_of% (wp_of c71_3.eq_1) := wp_of c71_3.eq_1
@[go_sem] theorem c71_4_wp : type_of% (wp_of c71_4.eq_1) := wp_of c71_4.eq_1
@[go_sem] theorem c71_5_wp : type_of% (wp_of c71_5.eq_1) := wp_of c71_5.eq_1
@[go_sem] theorem c71_6_wp : type_of% (wp_of c71_6.eq_1) := wp_of c71_6.eq_1
@[go_sem] theorem c71_7_wp : type_of% (wp_of c71_7.eq_1) := wp_of c71_7.eq_1
@[go_sem] theorem c71_8_wp : type_of% (wp_of c71_8.eq_1) := wp_of c71_8.eq_1
@[go_sem] theorem c71_9_wp : type_of% (wp_of c71_9.eq_1) := wp_of c71_9.eq_1
@[go_sem] theorem c71_10_wp : type_of% (wp_of c71_10.eq_1) := wp_of c71_10.eq_1
@[go_sem] theorem c71_11_wp : type_of% (wp_of c71_11.eq_1) := wp_of c71_11.eq_1
@[go_sem] theorem c71_12_wp : type_of% (wp_of c71_12.eq_1) := wp_of c71_12.eq_1
@[go_sem] theorem c71_13_wp : type_of% (wp_of c71_13.eq_1) := wp_of c71_13.eq_1
@[go_sem] theorem c71_14_wp : type_of% (wp_of c71_14.eq_1) := wp_of c71_14.eq_1
@[go_sem] theorem c71_15_wp : type_of% (wp_of c71_15.eq_1) := wp_of c71_15.eq_1
@[go_sem] theorem c71_16_wp : type_of% (wp_of c71_16.eq_1) := wp_of c71_16.eq_1
@[go_sem] theorem c71_17_wp : type_of% (wp_of c71_17.eq_1) := wp_of c71_17.eq_1
@[go_sem] theorem c71_18_wp : type_of% (wp_of c71_18.eq_1) := wp_of c71_18.eq_1
@[go_sem] theorem c71_19_wp : type_of% (wp_of c71_19.eq_1) := wp_of c71_19.eq_1
@[go_sem] theorem c71_20_wp : type_of% (wp_of c71_20.eq_1) := wp_of c71_20.eq_1
@[go_sem] theorem c71_21_wp : type_of% (wp_of c71_21.eq_1) := wp_of c71_21.eq_1
@[go_sem] theorem c71_22_wp : type_of% (wp_of c71_22.eq_1) := wp_of c71_22.eq_1
@[go_sem] theorem c71_23_wp : type_of% (wp_of c71_23.eq_1) := wp_of c71_23.eq_1
@[go_sem] theorem c71_24_wp : type_of% (wp_of c71_24.eq_1) := wp_of c71_24.eq_1
@[go_sem] theorem c71_25_wp : type_of% (wp_of c71_25.eq_1) := wp_of c71_25.eq_1
@[go_sem] theorem c71_26_wp : type_of% (wp_of c71_26.eq_1) := wp_of c71_26.eq_1
@[go_sem] theorem c71_27_wp : type_of% (wp_of c71_27.eq_1) := wp_of c71_27.eq_1
@[go_sem] theorem c71_28_wp : type_of% (wp_of c71_28.eq_1) := wp_of c71_28.eq_1
@[go_sem] theorem c71_29_wp : type_of% (wp_of c71_29.eq_1) := wp_of c71_29.eq_1
@[go_sem] theorem c71_30_wp : type_of% (wp_of c71_30.eq_1) := wp_of c71_30.eq_1
@[go_sem] theorem c71_31_wp : type_of% (wp_of c71_31.eq_1) := wp_of c71_31.eq_1
@[go_sem] theorem c71_32_wp : type_of% (wp_of c71_32.eq_1) := wp_of c71_32.eq_1
@[go_sem] theorem c71_33_wp : type_of% (wp_of c71_33.eq_1) := wp_of c71_33.eq_1
@[go_sem] theorem c71_34_wp : type_of% (wp_of c71_34.eq_1) := wp_of c71_34.eq_1
@[go_sem] theorem c71_35_wp : type_of% (wp_of c71_35.eq_1) := wp_of c71_35.eq_1
@[go_sem] theorem c71_36_wp : type_of% (wp_of c71_36.eq_1) := wp_of c71_36.eq_1
@[go_sem] theorem c71_37_wp : type_of% (wp_of c71_37.eq_1) := wp_of c71_37.eq_1
@[go_sem] theorem c71_38_wp : type_of% (wp_of c71_38.eq_1) := wp_of c71_38.eq_1
@[go_sem] theorem c71_39_wp : type_of% (wp_of c71_39.eq_1) := wp_of c71_39.eq_1
@[go_sem] theorem c71_40_wp : type_of% (wp_of c71_40.eq_1) := wp_of c71_40.eq_1
def c71 : AFn := ⟨74, [.t 2], c71_40⟩
set_option maxRecDepth 100000 in
theorem c71_ok : compF Tryz.prog Tryz.f71 = some c71 := by kernel_rfl
theorem a71 {args : List AV} {σ : ASt} {R : AV → ASt → Prop} (hl : args.length ≤ 74) (h : c71_40.wp Tryz.prog (RetQ [.t 2] R) (init args) σ) : ACalls Tryz.prog 71 args σ R := acalls_of Tryz.func71 c71_ok hl h
/-! 72: (*tabular/vint.Reader).Err -/
def c72_0 : ACode := .ops [
 ⟨some 2, none, .q (.mv (.v (.int .i64 0))), []⟩]
def c72_1 : ACode := .ops [
 ⟨some 3, none, .q (.mv (.t 0)), []⟩,
 ⟨some 4, none, .q (.nc (.t 3)), []⟩,
 ⟨some 5, none, .q (.fa 2 (.t 4)), []⟩,
 ⟨some 6, none, .q (.ld none (.t 5)), []⟩,
 ⟨some 2, none, .q (.mv (.t 6)), []⟩]
def c72_2 : ACode := .seq c72_1 .ret
def c72_3 : ACode := .seq c72_0 c72_2
@[go_sem] theorem c72_0_wp : type_of% (wp_of c72_0.eq_1) := wp_of c72_0.eq_1
@[go_sem] theorem c72_1_wp : type_of% (wp_of c72_1.eq_1) := wp_of c72_1.eq_1
@[go_sem] theorem c72_2_wp : type_of% (wp_of c72_2.eq_1) := wp_of c72_2.eq_1
@[go_sem] theorem c72_3_wp : type_of% (wp_of c72_3.eq_1) := wp_of c72_3.eq_1
def c72 : AFn := ⟨7, [.t 2], c72_3⟩
set_option maxRecDepth 100000 in
theorem c72_ok : compF Tryz.prog Tryz.f72 = some c72 := by kernel_rfl
theorem a72 {args : List AV} {σ : ASt} {R : AV → ASt → Prop} (hl : args.length ≤ 7) (h : c72_3.wp Tryz.prog (RetQ [.t 2] R) (init args) σ) : ACalls Tryz.prog 72 args σ R := acalls_of Tryz.func72 c72_ok hl h
end Go.A
namespace Go.A
open Go.Proofs Go.Vint
set_option maxRecDepth 100000
set_option linter.unusedSimpArgs false
set_option linter.unusedVariables false
def rd (s : List UInt8) (p : Nat) (e : Int) : Option Role := some (.obj [.str s, .int .i64 p, .int .i64 e])
theorem set_self {σ : ASt} {b : Nat} {r : Option Role} (h : σ b = r) : σ.set b r = σ := by
  funext x
  simp only [ASt.set]
  split
  · rename_i hx; rw [hx, h]
  · rfl
def firstErr (err e : Int) : Int := if err = 0 then e else err
theorem rread_ok (s : List UInt8) (σ : ASt) : ACalls Tryz.prog 27 [.str s] σ fun v σ' => ∃ b, v = .ptr b 0 ∧ σ b = none ∧ σ' = σ.set b (rd s 0 0) := by
  refine a27 (by simp) ?_
  simp (disch := first | assumption | omega | (simp only [List.length_append, List.length_cons, List.length_nil]; omega)) only [go_sem, reduceCtorEq, Nat.reduceAdd, Nat.reduceLeDiff, ↓reduceIte]
  refine boxC_by rfl fun b hb => ?_
  simp (disch := first | assumption | omega | (simp only [List.length_append, List.length_cons, List.length_nil]; omega)) only [go_sem, ↓reduceIte]
  exact retC_by (Drop.refl _) (.refl _) ⟨b, rfl, hb, rfl⟩
theorem rerr_ok (s : List UInt8) (p : Nat) (e : Int) (b : Nat) (σ : ASt) (hb : σ b = rd s p e) : ACalls Tryz.prog 72 [.ptr b 0] σ fun v σ' => v = .int .i64 e ∧ σ' = σ := by
  refine a72 (by simp) ?_
  simp (disch := first | assumption | omega | (simp only [List.length_append, List.length_cons, List.length_nil]; omega)) only [go_sem, reduceCtorEq, ↓reduceIte, hb, rd]
  exact retC_by (Drop.refl _) (.refl _) ⟨rfl, rfl⟩
theorem rfail_ok (s : List UInt8) (p : Nat) (e e0 : Int) (b : Nat) (σ : ASt) (hb : σ b = rd s p e) : ACalls Tryz.prog 53 [.ptr b 0, .int .i64 e0] σ fun v σ' => v = .tuple [] ∧ σ' = σ.set b (rd s p (firstErr e e0)) := by
  refine a53 (by simp) ?_
  by_cases he : e = 0
  · simp (disch := first | assumption | omega | (simp only [List.length_append, List.length_cons, List.length_nil]; omega)) only [go_sem, reduceCtorEq, Nat.reduceEqDiff, Nat.reduceAdd, Nat.reduceLeDiff, ↓reduceIte, Bool.true_and, hb, rd, he]
    exact retC_by (Drop.refl _) (.refl _) ⟨rfl, by simp [firstErr]⟩
  · simp (disch := first | assumption | omega | (simp only [List.length_append, List.length_cons, List.length_nil]; omega)) only [go_sem, ↓reduceIte, hb, rd, he]
    refine retC_by (Drop.refl _) (.refl _) ⟨rfl, ?_⟩
    rw [show firstErr e e0 = e by simp [firstErr, he]]
    exact (set_self hb).symm
theorem rdone_ok (s : List UInt8) (p : Nat) (e : Int) (b : Nat) (σ : ASt) (hb : σ b = rd s p e) : ACalls Tryz.prog 30 [.ptr b 0] σ fun v σ' => v = .int .i64 (if p < s.length then firstErr e 3 else e) ∧ σ' = σ.set b (rd s p (if p < s.length then firstErr e 3 else e)) := by
  refine a30 (by simp) ?_
  by_cases h : p < s.length
  · have h' : (p : Int) < s.length := by omega
    rw [if_pos h]
    simp (disch := first | assumption | omega | (simp only [List.length_append, List.length_cons, List.length_nil]; omega)) only [go_sem, reduceCtorEq, Nat.reduceEqDiff, ↓reduceIte, hb, rd, h']
    refine (rfail_ok s p e 3 b _ hb).mono ?_
    rintro v σ' ⟨rfl, rfl⟩
    simp (disch := first | assumption | omega | (simp only [List.length_append, List.length_cons, List.length_nil]; omega)) only [go_sem, reduceCtorEq, ↓reduceIte, rd]
    exact retC_by (Drop.refl _) (.refl _) ⟨rfl, rfl⟩
  · have h' : ¬ (p : Int) < s.length := by omega
    rw [if_neg h]
    simp (disch := first | assumption | omega | (simp only [List.length_append, List.length_cons, List.length_nil]; omega)) only [go_sem, reduceCtorEq, Nat.reduceEqDiff, ↓reduceIte, hb, rd, h']
    exact retC_by (Drop.refl _) (.refl _) ⟨rfl, (set_self hb).symm⟩
theorem or_sh {k U : Nat} {c : UInt8} (hk : k ≤ 9) (hU : U < 128 ^ k) (hc : k = 9 → (c.toNat : Int) ≤ 1) :
    ((BitVec.ofInt 64 (U : Int) ||| BitVec.ofInt 64 (IntKind.wrap .u64 (((BitVec.ofInt 8 (c.toNat : Int) &&& BitVec.ofInt 8 127).toNat : Int) * 2 ^ (7 * (k : Int)).toNat))).toNat : Int) = ((U + c.toNat % 128 * 128 ^ k : Nat) : Int) := by
  have h := or_shift hk hU hc
  rw [show (7 * (k : Int)).toNat = 7 * k by omega]
  have e1 : bits BinOp.and IntKind.u8 (c.toNat : Int) 127 = ((BitVec.ofInt 8 (c.toNat : Int) &&& BitVec.ofInt 8 127).toNat : Int) := by
    show IntKind.wrap .u8 ((BitVec.ofInt 8 (c.toNat : Int) &&& BitVec.ofInt 8 127).toNat : Int) = _
    rw [IntKind.wrap_u8, Int.emod_eq_of_lt (by omega) (by omega)]
  rw [e1, show IntKind.wrap .u64 ((BitVec.ofInt 8 (c.toNat : Int) &&& BitVec.ofInt 8 127).toNat : Int) = ((BitVec.ofInt 8 (c.toNat : Int) &&& BitVec.ofInt 8 127).toNat : Int) by
    rw [IntKind.wrap_u64, Int.emod_eq_of_lt (by omega) (by omega)]] at h
  have h' : IntKind.wrap .u64 ((BitVec.ofInt 64 (U : Int) ||| BitVec.ofInt 64 (IntKind.wrap .u64 (((BitVec.ofInt 8 (c.toNat : Int) &&& BitVec.ofInt 8 127).toNat : Int) * 2 ^ (7 * k)))).toNat : Int) = _ := h
  rwa [IntKind.wrap_u64, Int.emod_eq_of_lt (by omega) (by omega)] at h'
set_option maxHeartbeats 1000000 in
theorem ruint_ok (s : List UInt8) (p : Nat) (e : Int) (b : Nat) (σ : ASt) (hb : σ b = rd s p e) (hs : s.length ≤ 4611686018427387904) (hp : p ≤ s.length) :
    ACalls Tryz.prog 71 [.ptr b 0] σ fun v σ' => v = .int .u64 (readU s p e).1 ∧ σ' = σ.set b (rd s (readU s p e).2.1 (readU s p e).2.2) := by
  refine a71 (by simp) ?_
  by_cases he : e = 0
  · subst he
    obtain ⟨q, hq⟩ : ∃ q, scan 0 0 (s.drop p) = q := ⟨_, rfl⟩
    rw [readU_of hq]
    dsimp only
    simp (disch := first | assumption | omega | (simp only [List.length_append, List.length_cons, List.length_nil]; omega)) only [go_sem]
    refine wp_loop_on (fun (i : Nat × Nat) a σ' => (i.1 ≤ 9 ∧ p + i.1 ≤ s.length ∧ i.2 < 128 ^ i.1 ∧ scan i.1 i.2 (s.drop (p + i.1)) = q) ∧ (a 0 = .ptr b 0 ∧ a 3 = .int .u64 i.2 ∧ a 4 = .int .i64 i.1) ∧ σ' = σ)
      (fun i => 10 - i.1) (0, 0) ⟨⟨by simp, by simpa using hp, by simp, by simpa using hq⟩, ?_, rfl⟩ ?_
    · simp (disch := first | assumption | omega | (simp only [List.length_append, List.length_cons, List.length_nil]; omega)) only [go_sem, reduceCtorEq, Nat.reduceEqDiff, ↓reduceIte]
    rintro ⟨k, U⟩ a σ1 ⟨⟨hk, hpk, hU, hsc⟩, hf, rfl⟩
    dsimp only at hk hpk hU hsc hf
    by_cases hlt : p + k < s.length
    · have hlt' : (p : Int) + k < s.length := by omega
      have hidx : s[p + k]? = some (s[p + k]'hlt) := List.getElem?_eq_getElem hlt
      obtain ⟨c, hc⟩ : ∃ c, s[p + k]'hlt = c := ⟨_, rfl⟩
      rw [hc] at hidx
      have hidx' : s[((p : Int) + k).toNat]? = some c := by rw [show ((p : Int) + k).toNat = p + k by omega]; exact hidx
      have hcb := u8_lt c
      rw [scan_step hidx] at hsc
      have r0 : ¬ (p : Int) + k < 0 := by omega
      by_cases hbad : (k = 9 ∧ 1 < c.toNat) ∨ (0 < k ∧ c.toNat = 0)
      · rw [if_pos hbad] at hsc
        subst hsc
        repeat' (first | (simp (disch := first | assumption | omega | (simp only [List.length_append, List.length_cons, List.length_nil]; omega)) only [go_sem, reduceCtorEq, Nat.reduceEqDiff, ↓reduceIte, hf, hb, rd, hidx']) | refine (rfail_ok s p 0 3 b _ hb).mono ?_ | with_reducible refine gC_d (fun h => ?_) (fun h => ?_) | with_reducible refine gC_dn (fun h => ?_) (fun h => ?_) | with_reducible refine condC_d (fun h => ?_) (fun h => ?_) | with_reducible refine condC_n (fun h => ?_) (fun h => ?_) | with_reducible refine condC_b (fun h => ?_) (fun h => ?_) | with_reducible refine boxC_by ?_ fun b hb => ?_)
        all_goals first
          | (exfalso; omega)
          | (rintro v σ' ⟨rfl, rfl⟩
             simp (disch := first | assumption | omega | (simp only [List.length_append, List.length_cons, List.length_nil]; omega)) only [go_sem, ↓reduceIte, firstErr]
             exact retC_by (Drop.refl _) (.refl _) ⟨rfl, by simp [rd]⟩)
      · rw [if_neg hbad] at hsc
        have hor := or_sh (k := k) (U := U) (c := c) (by omega) hU (by omega)
        have hbd := or_shift_bd (k := k) (U := U) (c := c) hU
        have hmn : mnb (7 * (k : Int)).toNat 64 = (7 * (k : Int)).toNat := mnb_le (by omega)
        by_cases hc7 : c.toNat < 128
        · have hc7' : (c.toNat : Int) < 128 := by omega
          rw [if_pos hc7] at hsc
          subst hsc
          repeat' (first | (simp (disch := first | assumption | omega | (simp only [List.length_append, List.length_cons, List.length_nil]; omega)) only [go_sem, reduceCtorEq, Nat.reduceEqDiff, Nat.reduceAdd, Nat.reduceLeDiff, ↓reduceIte, Bool.true_and, hf, hb, rd, hidx', hmn, hc7']) | with_reducible refine gC_d (fun h => ?_) (fun h => ?_) | with_reducible refine gC_dn (fun h => ?_) (fun h => ?_) | with_reducible refine condC_d (fun h => ?_) (fun h => ?_) | with_reducible refine condC_n (fun h => ?_) (fun h => ?_) | with_reducible refine condC_b (fun h => ?_) (fun h => ?_) | with_reducible refine boxC_by ?_ fun b hb => ?_)
          all_goals first
            | (exfalso; omega)
            | exact retC_by (Drop.refl _) (.refl _) ⟨congrArg (AV.int .u64) hor, rfl⟩
        · have hc7' : ¬ (c.toNat : Int) < 128 := by omega
          rw [if_neg hc7] at hsc
          repeat' (first | (simp (disch := first | assumption | omega | (simp only [List.length_append, List.length_cons, List.length_nil]; omega)) only [go_sem, reduceCtorEq, Nat.reduceEqDiff, ↓reduceIte, hf, hb, rd, hidx', hmn, hc7']) | with_reducible refine gC_d (fun h => ?_) (fun h => ?_) | with_reducible refine gC_dn (fun h => ?_) (fun h => ?_) | with_reducible refine condC_d (fun h => ?_) (fun h => ?_) | with_reducible refine condC_n (fun h => ?_) (fun h => ?_) | with_reducible refine condC_b (fun h => ?_) (fun h => ?_) | with_reducible refine boxC_by ?_ fun b hb => ?_)
          all_goals first
            | (exfalso; omega)
            | (refine ⟨(k + 1, U + c.toNat % 128 * 128 ^ k), by dsimp only; omega, ⟨by dsimp only; omega, by dsimp only; omega, hbd, hsc⟩, congrArg (AV.int .u64) hor, rfl⟩)
    · have hlt' : ¬ (p : Int) + k < s.length := by omega
      rw [scan_stop (by omega)] at hsc
      subst hsc
      simp (disch := first | assumption | omega | (simp only [List.length_append, List.length_cons, List.length_nil]; omega)) only [go_sem, reduceCtorEq, Nat.reduceEqDiff, ↓reduceIte, hf, hb, rd]
      refine (rfail_ok s p 0 2 b _ hb).mono ?_
      rintro v σ' ⟨rfl, rfl⟩
      simp (disch := first | assumption | omega | (simp only [List.length_append, List.length_cons, List.length_nil]; omega)) only [go_sem, reduceCtorEq, ↓reduceIte, firstErr]
      exact retC_by (Drop.refl _) (.refl _) ⟨rfl, by simp [rd]⟩
  · have hr : readU s p e = (0, p, e) := by unfold readU; rw [if_pos he]
    rw [hr]
    dsimp only
    simp (disch := first | assumption | omega | (simp only [List.length_append, List.length_cons, List.length_nil]; omega)) only [go_sem]
    refine wp_loop_on (fun (i : Unit) a σ' => a 0 = .ptr b 0 ∧ σ' = σ) (fun _ => 0) () ⟨by simp (disch := first | assumption | omega | (simp only [List.length_append, List.length_cons, List.length_nil]; omega)) only [go_sem, reduceCtorEq, ↓reduceIte], rfl⟩ ?_
    rintro ⟨⟩ a σ1 ⟨h0, rfl⟩
    simp (disch := first | assumption | omega | (simp only [List.length_append, List.length_cons, List.length_nil]; omega)) only [go_sem, ↓reduceIte, h0, hb, rd, he]
    exact retC_by (Drop.refl _) (.refl _) ⟨rfl, (set_self hb).symm⟩
end Go.A
namespace Go.A
open Go.Proofs
/-! 74: (*tabular/vint.Reader).Int -/
def c74_0 : ACode := .ops [
 ⟨some 2, none, .q (.mv (.v (.int .i64 0))), []⟩]
def c74_1 : ACode := .ops [
 ⟨some 4, none, .q (.mv (.t 0)), []⟩,
 ⟨some 5, none, .e (.call 71 [(.t 4)]), []⟩,
 ⟨some 3, none, .q (.mv (.t 5)), []⟩]
def c74_2 : ACode := .ops [
 ⟨some 6, none, .q (.mv (.t 3)), []⟩,
 ⟨some 7, none, .q (.bin .shr (.t 6) (.v (.int .u64 1))), []⟩,
 ⟨some 8, none, .q (.conv .i64 (.t 7)), []⟩,
 ⟨some 9, none, .q (.mv (.t 3)), []⟩,
 ⟨some 10, none, .q (.bin .and (.t 9) (.v (.int .u64 1))), []⟩,
 ⟨some 11, none, .q (.conv .i64 (.t 10)), []⟩,
 ⟨some 12, none, .q (.un .neg (.t 11)), []⟩,
 ⟨some 13, none, .q (.bin .xor (.t 8) (.t 12)), []⟩,
 ⟨some 2, none, .q (.mv (.t 13)), []⟩]
def c74_3 : ACode := .seq c74_2 .ret
def c74_4 : ACode := .seq c74_1 c74_3
def c74_5 : ACode := .seq c74_0 c74_4
@[go_sem] theorem c74_0_wp : type_of% (wp_of c74_0.eq_1) := wp_of c74_0.eq_1
@[go_sem] theorem c74_1_wp : type_of% (wp_of c74_1.eq_1) := wp_of c74_1.eq_1
@[go_sem] theorem c74_2_wp : type_of% (wp_of c74_2.eq_1) := wp_of c74_2.eq_1
@[go_sem] theorem c74_3_wp : type_of% (wp_of c74_3.eq_1) := wp_of c74_3.eq_1
@[go_sem] theorem c74_4_wp : type_of% (wp_of c74_4.eq_1) := wp_of c74_4.eq_1
@[go_sem] theorem c74_5_wp : type_of% (wp_of c74_5.eq_1) := wp_of c74_5.eq_1
def c74 : AFn := ⟨14, [.t 2], c74_5⟩
set_option maxRecDepth 100000 in
theorem c74_ok : compF Tryz.prog Tryz.f74 = some c74 := by kernel_rfl
theorem a74 {args : List AV} {σ : ASt} {R : AV → ASt → Prop} (hl : args.length ≤ 14) (h : c74_5.wp Tryz.prog (RetQ [.t 2] R) (init args) σ) : ACalls Tryz.prog 74 args σ R := acalls_of Tryz.func74 c74_ok hl h
/-! 76: (*tabular/vint.Reader).Text -/
def c76_0 : ACode := .ops [
 ⟨some 4, none, .q (.mv (.v (.str []))), []⟩]
def c76_1 : ACode := .ops [
 ⟨some 6, none, .q (.mv (.t 0)), []⟩,
 ⟨some 7, none, .e (.call 71 [(.t 6)]), []⟩,
 ⟨some 5, none, .q (.mv (.t 7)), []⟩]
def c76_2 : ACode := .ops [
 ⟨some 8, none, .q (.mv (.t 0)), []⟩,
 ⟨some 9, none, .q (.nc (.t 8)), []⟩,
 ⟨some 10, none, .q (.fa 2 (.t 9)), []⟩,
 ⟨some 11, none, .q (.ld none (.t 10)), []⟩,
 ⟨some 12, none, .q (.bin .eql (.t 11) (.v (.int .i64 0))), []⟩,
 ⟨some 13, none, .q (.mv (.t 12)), []⟩,
 ⟨some 14, some (13, true), .q (.mv (.t 5)), []⟩,
 ⟨some 15, some (13, true), .q (.mv (.t 1)), []⟩,
 ⟨some 16, some (13, true), .q (.mnx true (.t 15) (.v (.int .i64 0))), []⟩,
 ⟨some 17, some (13, true), .q (.conv .u64 (.t 16)), []⟩,
 ⟨some 18, some (13, true), .q (.bin .gtr (.t 14) (.t 17)), []⟩,
 ⟨some 19, none, .q (.pick (.t 13) (.t 18) (.v (.bool false))), []⟩]
def c76_3 : ACode := .ops [
 ⟨some 20, none, .q (.mv (.t 0)), []⟩,
 ⟨some 21, none, .e (.call 53 [(.t 20), (.v (.int .i64 11))]), []⟩]
def c76_4 : ACode := .cond (.t 19) c76_3 .skip
def c76_5 : ACode := .seq c76_2 c76_4
def c76_6 : ACode := .ops [
 ⟨some 22, none, .q (.mv (.t 0)), []⟩,
 ⟨some 23, none, .q (.nc (.t 22)), []⟩,
 ⟨some 24, none, .q (.fa 2 (.t 23)), []⟩,
 ⟨some 25, none, .q (.ld none (.t 24)), []⟩,
 ⟨some 26, none, .q (.bin .eql (.t 25) (.v (.int .i64 0))), []⟩,
 ⟨some 27, none, .q (.mv (.t 26)), []⟩,
 ⟨some 28, some (27, true), .q (.mv (.t 5)), []⟩,
 ⟨some 29, some (27, true), .q (.mv (.t 0)), []⟩,
 ⟨some 30, some (27, true), .q (.nc (.t 29)), []⟩,
 ⟨some 31, some (27, true), .q (.fa 0 (.t 30)), []⟩,
 ⟨some 32, some (27, true), .q (.ld none (.t 31)), []⟩,
 ⟨some 33, some (27, true), .q (.lenS (.t 32)), []⟩,
 ⟨some 34, some (27, true), .q (.mv (.t 0)), []⟩,
 ⟨some 35, some (27, true), .q (.nc (.t 34)), []⟩,
 ⟨some 36, some (27, true), .q (.fa 1 (.t 35)), []⟩,
 ⟨some 37, some (27, true), .q (.ld none (.t 36)), []⟩,
 ⟨some 38, some (27, true), .q (.bin .sub (.t 33) (.t 37)), []⟩,
 ⟨some 39, some (27, true), .q (.conv .u64 (.t 38)), []⟩,
 ⟨some 40, some (27, true), .q (.bin .gtr (.t 28) (.t 39)), []⟩,
 ⟨some 41, none, .q (.pick (.t 27) (.t 40) (.v (.bool false))), []⟩]
def c76_7 : ACode := .ops [
 ⟨some 42, none, .q (.mv (.t 0)), []⟩,
 ⟨some 43, none, .e (.call 53 [(.t 42), (.v (.int .i64 2))]), []⟩]
def c76_8 : ACode := .cond (.t 41) c76_7 .skip
def c76_9 : ACode := .seq c76_6 c76_8
def c76_10 : ACode := .ops [
 ⟨some 44, none, .q (.mv (.t 0)), []⟩,
 ⟨some 45, none, .q (.nc (.t 44)), []⟩,
 ⟨some 46, none, .q (.fa 2 (.t 45)), []⟩,
 ⟨some 47, none, .q (.ld none (.t 46)), []⟩,
 ⟨some 48, none, .q (.bin .neq (.t 47) (.v (.int .i64 0))), []⟩]
def c76_11 : ACode := .ops [
 ⟨some 4, none, .q (.mv (.v (.str []))), []⟩]
def c76_12 : ACode := .seq c76_11 .ret
def c76_13 : ACode := .cond (.t 48) c76_12 .skip
def c76_14 : ACode := .seq c76_10 c76_13
def c76_15 : ACode := .ops [
 ⟨some 49, none, .q (.mv (.t 0)), []⟩,
 ⟨some 50, none, .q (.nc (.t 49)), []⟩,
 ⟨some 51, none, .q (.fa 1 (.t 50)), []⟩,
 ⟨some 52, none, .q (.ld none (.t 51)), []⟩,
 ⟨some 53, none, .q (.mv (.t 5)), []⟩,
 ⟨some 54, none, .q (.conv .i64 (.t 53)), []⟩,
 ⟨some 55, none, .q (.bin .add (.t 52) (.t 54)), []⟩,
 ⟨some 56, none, .q (.nc (.t 49)), []⟩,
 ⟨some 57, none, .q (.fa 1 (.t 56)), []⟩,
 ⟨none, none, .e (.store 1 (.t 57) (.t 55)), []⟩]
def c76_16 : ACode := .ops [
 ⟨some 58, none, .q (.mv (.t 0)), []⟩,
 ⟨some 59, none, .q (.nc (.t 58)), []⟩,
 ⟨some 60, none, .q (.fa 0 (.t 59)), []⟩,
 ⟨some 61, none, .q (.ld none (.t 60)), []⟩,
 ⟨some 62, none, .q (.mv (.t 0)), []⟩,
 ⟨some 63, none, .q (.nc (.t 62)), []⟩,
 ⟨some 64, none, .q (.fa 1 (.t 63)), []⟩,
 ⟨some 65, none, .q (.ld none (.t 64)), []⟩,
 ⟨some 66, none, .q (.mv (.t 5)), []⟩,
 ⟨some 67, none, .q (.conv .i64 (.t 66)), []⟩,
 ⟨some 68, none, .q (.bin .sub (.t 65) (.t 67)), []⟩,
 ⟨some 69, none, .q (.mv (.t 0)), []⟩,
 ⟨some 70, none, .q (.nc (.t 69)), []⟩,
 ⟨some 71, none, .q (.fa 1 (.t 70)), []⟩,
 ⟨some 72, none, .q (.ld none (.t 71)), []⟩,
 ⟨some 73, none, .q (.sls (true, 0) (.t 61) (.t 68) (.t 72)), []⟩,
 ⟨some 4, none, .q (.mv (.t 73)), []⟩]
def c76_17 : ACode := .seq c76_16 .ret
def c76_18 : ACode := .seq c76_15 c76_17
def c76_19 : ACode := .seq c76_14 c76_18
def c76_20 : ACode := .seq c76_9 c76_19
def c76_21 : ACode := .seq c76_5 c76_20
def c76_22 : ACode := .seq c76_1 c76_21
def c76_23 : ACode := .seq c76_0 c76_22
@[go_sem] theorem c76_0_wp : type_of% (wp_of c76_0.eq_1) := wp_of c76_0.eq_1
@[go_sem] theorem c76_1_wp : type_of% (wp_of c76_1.eq_1) := wp_of c76_1.eq_1
@[go_sem] theorem c76_2_wp : type_of% (wp_of c76_2.eq_1) := wp_of c76_2.eq_1
@[go_sem] theorem c76_3_wp : type_of% (wp_of c76_3.eq_1) := wp_of c76_3.eq_1
@[go_sem] theorem c76_4_wp : type_of% (wp_of c76_4.eq_1) := wp_of c76_4.eq_1
@[go_sem] theorem c76_5_wp : type_of% (wp_of c76_5.eq_1) := wp_of c76_5.eq_1
@[go_sem] theorem c76_6_wp : type_of% (wp_of c76_6.eq_1) := wp_of c76_6.eq_1
@[go_sem] theorem c76_7_wp : type_of% (wp_of c76_7.eq_1) := wp_of c76_7.eq_1
@[go_sem] theorem c76_8_wp : type_of% (wp_of c76_8.eq_1) := wp_of c76_8.eq_1
@[go_sem] theorem c76_9_wp : type_of% (wp_of c76_9.eq_1) := wp_of c76_9.eq_1
@[go_sem] theorem c76_10_wp : type_of% (wp_of c76_10.eq_1) := wp_of c76_10.eq_1
@[go_sem] theorem c76_11_wp : type_of% (wp_of c76_11.eq_1) := wp_of c76_11.eq_1
@[go_sem] theorem c76_12_wp : type_of% (wp_of c76_12.eq_1) := wp_of c76_12.eq_1
@[go_sem] theorem c76_13_wp : type_of% (wp_of c76_13.eq_1) := wp_of c76_13.eq_1
@[go_sem] theorem c76_14_wp : type_of% (wp_of c76_14.eq_1) := wp_of c76_14.eq_1
@[go_sem] theorem c76_15_wp : type_of% (wp_of c76_15.eq_1) := wp_of c76_15.eq_1
@[go_sem] theorem c76_16_wp : type_of% (wp_of c76_16.eq_1) := wp_of c76_16.eq_1
@[go_sem] theorem c76_17_wp : type_of% (wp_of c76_17.eq_1) := wp_of c76_17.eq_1
@[go_sem] theorem c76_18_wp : type_of% (wp_of c76_18.eq_1) := wp_of c76_18.eq_1
@[go_sem] theorem c76_19_wp : type_of% (wp_of c76_19.eq_1) := wp_of c76_19.eq_1
@[go_sem] theorem c76_20_wp : type_of% (wp_of c76_20.eq_1) := wp_of c76_20.eq_1
@[go_sem] theorem c76_21_wp : type_of% (wp_of c76_21.eq_1) := wp_of c76_21.eq_1
@[go_sem] theorem c76_22_wp : type_of% (wp_of c76_22.eq_1) := wp_of c76_22.eq_1
@[go_sem] theorem c76_23_wp : type_of% (wp_of c76_23.eq_1) := wp_of c76_23.eq_1
def c76 : AFn := ⟨74, [.t 4], c76_23⟩
set_option maxRecDepth 100000 in
theorem c76_ok : compF Tryz.prog Tryz.f76 = some c76 := by kernel_rfl
theorem a76 {args : List AV} {σ : ASt} {R : AV → ASt → Prop} (hl : args.length ≤ 74) (h : c76_23.wp Tryz.prog (RetQ [.t 4] R) (init args) σ) : ACalls Tryz.prog 76 args σ R := acalls_of Tryz.func76 c76_ok hl h
end Go.A
namespace Go.A
open Go.Proofs Go.Vint
set_option maxRecDepth 100000
set_option linter.unusedSimpArgs false
set_option linter.unusedVariables false
theorem scan_facts : ∀ (l : List UInt8) (k U : Nat), U < 128 ^ k → k ≤ 9 → (scan k U l).2.1 < 18446744073709551616 ∧ (scan k U l).2.2 ≤ k + l.length ∧ ((scan k U l).1 = 0 ∨ (scan k U l).1 = 2 ∧ (scan k U l).2.1 = 0 ∧ (scan k U l).2.2 = 0 ∨ (scan k U l).1 = 3 ∧ (scan k U l).2.1 = 0 ∧ (scan k U l).2.2 = 0)
  | [], k, U, hU, hk => by simp [scan]
  | c :: r, k, U, hU, hk => by
    have hbd := or_shift_bd (k := k) (U := U) (c := c) hU
    have hcb := c.toNat_lt
    unfold scan
    split
    · simp
    · rename_i hbad
      split
      · refine ⟨?_, by simp only [List.length_cons]; omega, .inl rfl⟩
        dsimp only
        rcases Nat.lt_or_ge k 9 with h | h
        · have h2 : 128 ^ (k + 1) ≤ 128 ^ 9 := Nat.pow_le_pow_right (by omega) (by omega)
          have e9 : (128 : Nat) ^ 9 = 9223372036854775808 := by decide
          omega
        · obtain rfl : k = 9 := by omega
          have e9 : (128 : Nat) ^ 9 = 9223372036854775808 := by decide
          rw [e9] at hU ⊢
          have : c.toNat ≤ 1 := by omega
          omega
      · have hk9 : k ≠ 9 := by omega
        have ih := scan_facts r (k + 1) (U + c.toNat % 128 * 128 ^ k) hbd (by omega)
        refine ⟨ih.1, by simp; omega, ih.2.2⟩
theorem readU_facts (s : List UInt8) (p : Nat) (e : Int) (hp : p ≤ s.length) : (readU s p e).1 < 18446744073709551616 ∧ (readU s p e).2.1 ≤ s.length ∧ ((readU s p e).2.2 ≠ 0 → (readU s p e).1 = 0 ∧ (readU s p e).2.1 = p) ∧ (e ≠ 0 → (readU s p e).2.2 = e) := by
  unfold readU
  by_cases he : e ≠ 0
  · rw [if_pos he]; simp; exact hp
  · rw [if_neg he]
    obtain ⟨h1, h2, h3⟩ := scan_facts (s.drop p) 0 0 (by simp) (by omega)
    refine ⟨h1, by simp at h2 ⊢; omega, fun h => ?_, fun h => absurd h he⟩
    dsimp only at h ⊢
    omega
def unfI (u : Nat) : Int := if u % 2 = 1 then -((u / 2 : Nat) : Int) - 1 else ((u / 2 : Nat) : Int)
theorem unf_fold {n : Int} (h1 : -9223372036854775808 ≤ n) (h2 : n ≤ 9223372036854775807) : unfI (foldI n).toNat = n := by
  unfold foldI unfI
  split <;> split <;> omega
theorem unf_bits {u : Nat} (hu : u < 18446744073709551616) :
    IntKind.wrap .i64 ((BitVec.ofInt 64 ((u : Int) / 2) ^^^ BitVec.ofInt 64 (IntKind.wrap .i64 (0 - IntKind.wrap .i64 ((BitVec.ofInt 64 (u : Int) &&& BitVec.ofInt 64 1).toNat : Int)))).toNat : Int) = unfI u := by
  have ofi : ∀ a : Nat, a < 18446744073709551616 → (BitVec.ofInt 64 (a : Int)).toNat = a := fun a ha => ofInt_u64 a ha
  have h1 : (BitVec.ofInt 64 (u : Int) &&& BitVec.ofInt 64 1).toNat = u % 2 := by
    rw [BitVec.toNat_and, ofi u hu, show BitVec.ofInt 64 1 = 1#64 by decide +kernel]
    simp [Nat.and_one_is_mod]
  rw [h1, show (u : Int) / 2 = ((u / 2 : Nat) : Int) by omega]
  unfold unfI
  rcases Nat.mod_two_eq_zero_or_one u with h | h
  · rw [h, if_neg (by omega)]
    have e3 : BitVec.ofInt 64 (IntKind.wrap .i64 (0 - IntKind.wrap .i64 ((0 : Nat) : Int))) = 0#64 := by decide +kernel
    rw [e3, BitVec.xor_zero, ofi _ (by omega), wrap_i64 (by omega) (by omega)]
  · rw [h, if_pos rfl]
    have e3 : BitVec.ofInt 64 (IntKind.wrap .i64 (0 - IntKind.wrap .i64 ((1 : Nat) : Int))) = BitVec.allOnes 64 := by decide +kernel
    rw [e3, BitVec.xor_allOnes, BitVec.toNat_not, ofi _ (by omega)]
    rw [IntKind.wrap_i64]
    omega
theorem rint_ok (s : List UInt8) (p : Nat) (e : Int) (b : Nat) (σ : ASt) (hb : σ b = rd s p e) (hs : s.length ≤ 4611686018427387904) (hp : p ≤ s.length) :
    ACalls Tryz.prog 74 [.ptr b 0] σ fun v σ' => v = .int .i64 (unfI (readU s p e).1) ∧ σ' = σ.set b (rd s (readU s p e).2.1 (readU s p e).2.2) := by
  refine a74 (by simp) ?_
  obtain ⟨f1, f2, f3, f4⟩ := readU_facts s p e hp
  simp (disch := first | assumption | omega | (simp only [List.length_append, List.length_cons, List.length_nil]; omega)) only [go_sem, reduceCtorEq, ↓reduceIte]
  refine (ruint_ok s p e b σ hb hs hp).mono ?_
  rintro v σ' ⟨rfl, rfl⟩
  generalize readU s p e = R at *
  obtain ⟨u, p', e'⟩ := R
  dsimp only at *
  simp (disch := first | assumption | omega | (simp only [List.length_append, List.length_cons, List.length_nil]; omega)) only [go_sem, Nat.reduceEqDiff, ↓reduceIte, Int.reduceToNat, Int.reducePow]
  exact retC_by (Drop.refl _) (.refl _) ⟨congrArg (AV.int .i64) (unf_bits f1), rfl⟩
def rtxP (s : List UInt8) (p : Nat) (e : Int) (most : Nat) : List UInt8 × Nat × Int :=
  if (readU s p e).2.2 ≠ 0 then ([], (readU s p e).2.1, (readU s p e).2.2)
  else if most < (readU s p e).1 then ([], (readU s p e).2.1, 11)
  else if s.length < (readU s p e).2.1 + (readU s p e).1 then ([], (readU s p e).2.1, 2)
  else ((s.drop (readU s p e).2.1).take (readU s p e).1, (readU s p e).2.1 + (readU s p e).1, 0)
theorem rtext_ok (s : List UInt8) (p : Nat) (e : Int) (most : Nat) (b : Nat) (σ : ASt) (hb : σ b = rd s p e) (hs : s.length ≤ 4611686018427387904) (hp : p ≤ s.length) (hm : most ≤ 1000000) :
    ACalls Tryz.prog 76 [.ptr b 0, .int .i64 most] σ fun v σ' => v = .str (rtxP s p e most).1 ∧ σ' = σ.set b (rd s (rtxP s p e most).2.1 (rtxP s p e most).2.2) := by
  refine a76 (by simp) ?_
  obtain ⟨q, hq⟩ : ∃ q, rtxP s p e most = q := ⟨_, rfl⟩
  rw [hq]
  unfold rtxP at hq
  obtain ⟨f1, f2, f3, f4⟩ := readU_facts s p e hp
  simp (disch := first | assumption | omega | (simp only [List.length_append, List.length_cons, List.length_nil]; omega)) only [go_sem, reduceCtorEq, ↓reduceIte]
  refine (ruint_ok s p e b σ hb hs hp).mono ?_
  rintro v σ' ⟨rfl, rfl⟩
  generalize readU s p e = R at *
  obtain ⟨u, p', e'⟩ := R
  dsimp only at *
  have hmx : max (most : Int) 0 = most := by omega
  by_cases he : e' = 0
  · subst he
    rw [if_neg (by simp)] at hq
    by_cases h1 : most < u
    · have h1' : (most : Int) < u := by omega
      rw [if_pos h1] at hq
      subst hq
      simp (disch := first | assumption | omega | (simp only [List.length_append, List.length_cons, List.length_nil]; omega)) only [go_sem, reduceCtorEq, Nat.reduceEqDiff, ↓reduceIte, rd, hmx, h1']
      refine (rfail_ok s p' 0 11 b _ (ASt.set_same _ _ _)).mono ?_
      rintro v σ' ⟨rfl, rfl⟩
      simp (disch := first | assumption | omega | (simp only [List.length_append, List.length_cons, List.length_nil]; omega)) only [go_sem, reduceCtorEq, Nat.reduceEqDiff, Int.reduceEq, ↓reduceIte, rd, firstErr]
      exact retC_by (Drop.refl _) (.refl _) ⟨rfl, rfl⟩
    · have h1' : ¬ (most : Int) < u := by omega
      rw [if_neg h1] at hq
      by_cases h2 : s.length < p' + u
      · have h2' : (s.length : Int) - p' < u := by omega
        rw [if_pos h2] at hq
        subst hq
        simp (disch := first | assumption | omega | (simp only [List.length_append, List.length_cons, List.length_nil]; omega)) only [go_sem, reduceCtorEq, Nat.reduceEqDiff, ↓reduceIte, rd, hmx, h1', h2']
        refine (rfail_ok s p' 0 2 b _ (ASt.set_same _ _ _)).mono ?_
        rintro v σ' ⟨rfl, rfl⟩
        simp (disch := first | assumption | omega | (simp only [List.length_append, List.length_cons, List.length_nil]; omega)) only [go_sem, reduceCtorEq, Int.reduceEq, ↓reduceIte, rd, firstErr]
        exact retC_by (Drop.refl _) (.refl _) ⟨rfl, rfl⟩
      · have h2' : ¬ (s.length : Int) - p' < u := by omega
        rw [if_neg h2] at hq
        subst hq
        have e1 : (p' : Int) + u - u = p' := by omega
        have e2 : ((p' : Int) + u).toNat = p' + u := by omega
        simp (disch := first | assumption | omega | (simp only [List.length_append, List.length_cons, List.length_nil]; omega)) only [go_sem, reduceCtorEq, Nat.reduceEqDiff, Nat.reduceAdd, Nat.reduceLeDiff, ↓reduceIte, Bool.true_and, rd, hmx, h1', h2', e1, e2]
        refine retC_by (Drop.refl _) (.refl _) ⟨?_, rfl⟩
        rw [List.drop_take, Nat.add_sub_cancel_left]
        rfl
  · rw [if_pos he] at hq
    subst hq
    simp (disch := first | assumption | omega | (simp only [List.length_append, List.length_cons, List.length_nil]; omega)) only [go_sem, reduceCtorEq, Nat.reduceEqDiff, ↓reduceIte, rd, he]
    exact retC_by (Drop.refl _) (.refl _) ⟨rfl, rfl⟩
end Go.A
namespace Go.A
open Go.Proofs Go.Vint
set_option maxRecDepth 100000
set_option linter.unusedSimpArgs false
set_option linter.unusedVariables false
theorem u8_of_lt {n : Nat} (h : n < 256) : (u8Of (n : Int)).toNat = n := by
  unfold u8Of
  rw [Int.toNat_natCast]
  simp; omega
theorem scan_uint : ∀ (m : Nat) (w k U : Nat) (r : List UInt8), (uintB w).length = m → k ≤ 9 → U + w * 128 ^ k < 18446744073709551616 → (0 < k → 0 < w) → scan k U (uintB w ++ r) = (0, U + w * 128 ^ k, k + (uintB w).length)
  | m, w, k, U, r, hm, hk, hb, hpos => by
    by_cases hw : w < 128
    · rw [uintB_small hw]
      simp only [List.singleton_append, scan, List.length_singleton, u8_of_lt (show w < 256 by omega)]
      have h1 : ¬ (k = 9 ∧ 1 < w ∨ 0 < k ∧ w = 0) := by
        rintro (⟨rfl, h⟩ | ⟨h, h2⟩)
        · have e : (128 : Nat) ^ 9 = 9223372036854775808 := by decide
          rw [e] at hb
          omega
        · have := hpos h; omega
      rw [if_neg h1, if_pos hw, Nat.mod_eq_of_lt hw]
    · rw [uintB_big hw] at hm ⊢
      have hc : (u8Of ((128 + w % 128 : Nat) : Int)).toNat = 128 + w % 128 := u8_of_lt (by omega)
      simp only [List.cons_append, scan, hc, List.length_cons]
      have hk9 : k ≠ 9 := by
        rintro rfl
        have e : (128 : Nat) ^ 9 = 9223372036854775808 := by decide
        rw [e] at hb
        omega
      rw [if_neg (by omega), if_neg (by omega)]
      have e1 : (128 + w % 128) % 128 = w % 128 := by omega
      have e2 : U + w % 128 * 128 ^ k + w / 128 * 128 ^ (k + 1) = U + w * 128 ^ k := by
        rw [Nat.pow_succ, Nat.add_assoc]
        congr 1
        rw [← Nat.mul_assoc, Nat.mul_right_comm (w / 128), ← Nat.add_mul]
        congr 1
        omega
      rw [e1]
      simp only [List.length_cons] at hm
      rw [scan_uint (m - 1) (w / 128) (k + 1) _ r (by omega) (by omega) (by rw [e2]; exact hb) (by omega), e2]
      simp; omega
theorem drop_app {s l r : List UInt8} {p : Nat} (h : s.drop p = l ++ r) : s.drop (p + l.length) = r := by
  rw [← List.drop_drop, h]; simp
theorem readU_uint {s r : List UInt8} {p u : Nat} (h : s.drop p = uintB u ++ r) (hu : u < 18446744073709551616) : readU s p 0 = (u, p + (uintB u).length, 0) := by
  have := scan_uint _ u 0 0 r rfl (by omega) (by omega) (by omega)
  rw [readU_of (h ▸ this)]
  simp
end Go.A
namespace Go.A
open Go.Proofs
/-! 95: tabular/token.Lex -/
def c95_0 : ACode := .ops [
 ⟨some 2, none, .q (.mv (.v (.sl .full []))), []⟩,
 ⟨some 3, none, .q (.mv (.v (.int .i64 0))), []⟩,
 ⟨some 4, none, .q (.mv (.v (.int .i64 0))), []⟩]
def c95_1 : ACode := .ops [
 ⟨some 7, none, .q (.mv (.t 0)), []⟩,
 ⟨some 8, none, .q (.lenS (.t 7)), []⟩,
 ⟨some 9, none, .q (.bin .gtr (.t 8) (.v (.int .i64 2000))), []⟩]
def c95_2 : ACode := .ops [
 ⟨some 2, none, .q (.mv (.v (.sl .full []))), []⟩,
 ⟨some 3, none, .q (.mv (.v (.int .i64 0))), []⟩,
 ⟨some 4, none, .q (.mv (.v (.int .i64 11))), []⟩]
def c95_3 : ACode := .seq c95_2 .ret
def c95_4 : ACode := .cond (.t 9) c95_3 .skip
def c95_5 : ACode := .seq c95_1 c95_4
def c95_6 : ACode := .ops [
 ⟨some 10, none, .q (.mv (.t 0)), []⟩,
 ⟨some 11, none, .q (.build [(.str []), (.int .i64 0), (.int .i64 0), (.sl .full [])] [(0, 1, (.t 10))]), []⟩,
 ⟨some 12, none, .e (.box (.t 11)), []⟩,
 ⟨some 5, none, .q (.mv (.t 12)), []⟩]
def c95_7 : ACode := .ops [
 ⟨some 13, none, .q (.mv (.t 5)), []⟩,
 ⟨some 14, none, .q (.nc (.t 13)), []⟩,
 ⟨some 15, none, .q (.fa 1 (.t 14)), []⟩,
 ⟨some 16, none, .q (.ld none (.t 15)), []⟩,
 ⟨some 17, none, .q (.mv (.t 0)), []⟩,
 ⟨some 18, none, .q (.lenS (.t 17)), []⟩,
 ⟨some 19, none, .q (.bin .lss (.t 16) (.t 18)), []⟩]
def c95_8 : ACode := .cond (.t 19) .skip (.exit 0)
def c95_9 : ACode := .seq c95_7 c95_8
def c95_10 : ACode := .ops [
 ⟨some 20, none, .q (.mv (.t 5)), []⟩,
 ⟨some 21, none, .e (.call 106 [(.t 20)]), []⟩,
 ⟨some 6, none, .q (.mv (.t 21)), []⟩]
def c95_11 : ACode := .ops [
 ⟨some 22, none, .q (.mv (.t 6)), []⟩,
 ⟨some 23, none, .q (.bin .neq (.t 22) (.v (.int .i64 0))), []⟩]
def c95_12 : ACode := .ops [
 ⟨some 24, none, .q (.mv (.t 5)), []⟩,
 ⟨some 25, none, .q (.nc (.t 24)), []⟩,
 ⟨some 26, none, .q (.fa 1 (.t 25)), []⟩,
 ⟨some 27, none, .q (.ld none (.t 26)), []⟩,
 ⟨some 28, none, .q (.mv (.t 6)), []⟩,
 ⟨some 2, none, .q (.mv (.v (.sl .full []))), []⟩,
 ⟨some 3, none, .q (.mv (.t 27)), []⟩,
 ⟨some 4, none, .q (.mv (.t 28)), []⟩]
def c95_13 : ACode := .seq c95_12 .ret
def c95_14 : ACode := .cond (.t 23) c95_13 .skip
def c95_15 : ACode := .seq c95_11 c95_14
def c95_16 : ACode := .seq c95_10 c95_15
def c95_17 : ACode := .block 1 c95_16
def c95_18 : ACode := .seq c95_9 c95_17
def c95_19 : ACode := .loop c95_18
def c95_20 : ACode := .block 0 c95_19
def c95_21 : ACode := .ops [
 ⟨some 29, none, .q (.mv (.t 5)), []⟩,
 ⟨some 30, none, .e (.call 107 [(.t 29), (.v (.int .i64 0)), (.v (.str [])), (.v (.int .i64 0))]), []⟩]
def c95_22 : ACode := .ops [
 ⟨some 31, none, .q (.mv (.t 5)), []⟩,
 ⟨some 32, none, .q (.nc (.t 31)), []⟩,
 ⟨some 33, none, .q (.fa 3 (.t 32)), []⟩,
 ⟨some 34, none, .q (.ld none (.t 33)), []⟩,
 ⟨some 2, none, .q (.mv (.t 34)), []⟩,
 ⟨some 3, none, .q (.mv (.v (.int .i64 0))), []⟩,
 ⟨some 4, none, .q (.mv (.v (.int .i64 0))), []⟩]
def c95_23 : ACode := .seq c95_22 .ret
def c95_24 : ACode := .seq c95_21 c95_23
def c95_25 : ACode := .seq c95_20 c95_24
def c95_26 : ACode := .seq c95_6 c95_25
def c95_27 : ACode := .seq c95_5 c95_26
def c95_28 : ACode := .seq c95_0 c95_27
@[go_sem] theorem c95_0_wp : type_of% (wp_of c95_0.eq_1) := wp_of c95_0.eq_1
@[go_sem] theorem c95_1_wp : type_of% (wp_of c95_1.eq_1) := wp_of c95_1.eq_1
@[go_sem] theorem c95_2_wp : type_of% (wp_of c95_2.eq_1) := wp_of c95_2.eq_1
@[go_sem] theorem c95_3_wp : type_of% (wp_of c95_3.eq_1) := wp_of c95_3.eq_1
@[go_sem] theorem c95_4_wp : type_of% (wp_of c95_4.eq_1) := wp_of c95_4.eq_1
@[go_sem] theorem c95_5_wp : type_of% (wp_of c95_5.eq_1) := wp_of c95_5.eq_1
@[go_sem] theorem c95_6_wp : type_of% (wp_of c95_6.eq_1) := wp_of c95_6.eq_1
@[go_sem] theorem c95_7_wp : type_of% (wp_of c95_7.eq_1) := wp_of c95_7.eq_1
@[go_sem] theorem c95_8_wp : type_of% (wp_of c95_8.eq_1) := wp_of c95_8.eq_1
@[go_sem] theorem c95_9_wp : type_of% (wp_of c95_9.eq_1) := wp_of c95_9.eq_1
@[go_sem] theorem c95_10_wp : type_of% (wp_of c95_10.eq_1) := wp_of c95_10.eq_1
@[go_sem] theorem c95_11_wp : type_of% (wp_of c95_11.eq_1) := wp_of c95_11.eq_1
@[go_sem] theorem c95_12_wp : type_of% (wp_of c95_12.eq_1) := wp_of c95_12.eq_1
@[go_sem] theorem c95_13_wp : type_of% (wp_of c95_13.eq_1) := wp_of c95_13.eq_1
@[go_sem] theorem c95_14_wp : type_of% (wp_of c95_14.eq_1) := wp_of c95_14.eq_1
@[go_sem] theorem c95_15_wp : type_of% (wp_of c95_15.eq_1) := wp_of c95_15.eq_1
@[go_sem] theorem c95_16_wp : type_of% (wp_of c95_16.eq_1) := wp_of c95_16.eq_1
@[go_sem] theorem c95_17_wp : type_of% (wp_of c95_17.eq_1) := wp_of c95_17.eq_1
@[go_sem] theorem c95_18_wp : type_of% (wp_of c95_18.eq_1) := wp_of c95_18.eq_1
@[go_sem] theorem c95_19_wp : type_of% (wp_of c95_19.eq_1) := wp_of c95_19.eq_1
@[go_sem] theorem c95_20_wp : type_of% (wp_of c95_20.eq_1) := wp_of c95_20.eq_1
@[go_sem] theorem c95_21_wp : type_of% (wp_of c95_21.eq_1) := wp_of c95_21.eq_1
@[go_sem] theorem c95_22_wp : type_of% (wp_of c95_22.eq_1) := wp_of c95_22.eq_1
@[go_sem] theorem c95_23_wp : type_of% (wp_of c95_23.eq_1) := wp_of c95_23.eq_1
@[go_sem] theorem c95_24_wp : type_of% (wp_of c95_24.eq_1) := wp_of c95_24.eq_1
@[go_sem] theorem c95_25_wp : type_of% (wp_of c95_25.eq_1) := wp_of c95_25.eq_1
@[go_sem] theorem c95_26_wp : type_of% (wp_of c95_26.eq_1) := wp_of c95_26.eq_1
@[go_sem] theorem c95_27_wp : type_of% (wp_of c95_27.eq_1) := wp_of c95_27.eq_1
@[go_sem] theorem c95_28_wp : type_of% (wp_of c95_28.eq_1) := wp_of c95_28.eq_1
def c95 : AFn := ⟨35, [.t 2, .t 3, .t 4], c95_28⟩
set_option maxRecDepth 100000 in
theorem c95_ok : compF Tryz.prog Tryz.f95 = some c95 := by kernel_rfl
theorem a95 {args : List AV} {σ : ASt} {R : AV → ASt → Prop} (hl : args.length ≤ 35) (h : c95_28.wp Tryz.prog (RetQ [.t 2, .t 3, .t 4] R) (init args) σ) : ACalls Tryz.prog 95 args σ R := acalls_of Tryz.func95 c95_ok hl h
/-! 106: (*tabular/token.lexer).next -/
def c106_0 : ACode := .ops [
 ⟨some 2, none, .q (.mv (.v (.int .i64 0))), []⟩]
def c106_1 : ACode := .ops [
 ⟨some 6, none, .q (.mv (.t 0)), []⟩,
 ⟨some 7, none, .e (.call 119 [(.t 6)]), []⟩,
 ⟨some 5, none, .q (.mv (.t 7)), []⟩,
 ⟨some 8, none, .q (.ext 0 (.t 5)), []⟩,
 ⟨some 9, none, .q (.ext 1 (.t 5)), []⟩,
 ⟨some 3, none, .q (.mv (.t 8)), []⟩,
 ⟨some 4, none, .q (.mv (.t 9)), []⟩]
def c106_2 : ACode := .ops [
 ⟨some 15, none, .q (.mv (.t 4)), []⟩,
 ⟨some 16, none, .q (.bin .lss (.t 15) (.v (.int .i64 0))), []⟩,
 ⟨some 14, none, .q (.mv (.t 16)), []⟩]
def c106_3 : ACode := .ops [
 ⟨some 2, none, .q (.mv (.v (.int .i64 10))), []⟩]
def c106_4 : ACode := .seq c106_3 .ret
def c106_5 : ACode := .ops [
 ⟨some 18, none, .q (.mv (.t 3)), []⟩,
 ⟨some 19, none, .q (.bin .eql (.t 18) (.v (.int .i32 32))), []⟩,
 ⟨some 17, none, .q (.mv (.t 19)), []⟩]
def c106_6 : ACode := .ops [
 ⟨some 20, none, .q (.mv (.t 3)), []⟩,
 ⟨some 21, none, .q (.bin .eql (.t 20) (.v (.int .i32 9))), []⟩,
 ⟨some 17, none, .q (.mv (.t 21)), []⟩]
def c106_7 : ACode := .ops [
 ⟨some 22, none, .q (.mv (.t 3)), []⟩,
 ⟨some 23, none, .q (.bin .eql (.t 22) (.v (.int .i32 10))), []⟩,
 ⟨some 17, none, .q (.mv (.t 23)), []⟩]
def c106_8 : ACode := .cond (.t 17) .skip c106_7
def c106_9 : ACode := .seq c106_6 c106_8
def c106_10 : ACode := .cond (.t 17) .skip c106_9
def c106_11 : ACode := .seq c106_5 c106_10
def c106_12 : ACode := .ops [
 ⟨some 24, none, .q (.mv (.t 0)), []⟩,
 ⟨some 25, none, .q (.mv (.t 0)), []⟩,
 ⟨some 26, none, .q (.nc (.t 25)), []⟩,
 ⟨some 27, none, .q (.fa 1 (.t 26)), []⟩,
 ⟨some 28, none, .q (.ld none (.t 27)), []⟩,
 ⟨some 29, none, .q (.mv (.t 4)), []⟩,
 ⟨some 30, none, .q (.bin .add (.t 28) (.t 29)), []⟩,
 ⟨some 31, none, .e (.call 120 [(.t 24), (.t 30)]), []⟩]
def c106_13 : ACode := .ops [
 ⟨some 33, none, .q (.mv (.t 3)), []⟩,
 ⟨some 34, none, .q (.bin .lss (.t 33) (.v (.int .i32 128))), []⟩,
 ⟨some 35, none, .q (.mv (.t 34)), []⟩,
 ⟨some 36, some (35, true), .q (.mv (.t 3)), []⟩,
 ⟨some 37, some (35, true), .q (.conv .u8 (.t 36)), []⟩,
 ⟨some 38, some (35, true), .e (.call 121 [(.t 37)]), []⟩,
 ⟨some 39, none, .q (.pick (.t 35) (.t 38) (.v (.bool false))), []⟩,
 ⟨some 32, none, .q (.mv (.t 39)), []⟩]
def c106_14 : ACode := .ops [
 ⟨some 40, none, .q (.mv (.t 0)), []⟩,
 ⟨some 41, none, .e (.call 122 [(.t 40)]), []⟩,
 ⟨some 2, none, .q (.mv (.t 41)), []⟩]
def c106_15 : ACode := .seq c106_14 .ret
def c106_16 : ACode := .ops [
 ⟨some 43, none, .q (.mv (.t 3)), []⟩,
 ⟨some 44, none, .q (.bin .eql (.t 43) (.v (.int .i32 34))), []⟩,
 ⟨some 42, none, .q (.mv (.t 44)), []⟩]
def c106_17 : ACode := .ops [
 ⟨some 45, none, .q (.mv (.t 0)), []⟩,
 ⟨some 46, none, .e (.call 123 [(.t 45)]), []⟩,
 ⟨some 2, none, .q (.mv (.t 46)), []⟩]
def c106_18 : ACode := .seq c106_17 .ret
def c106_19 : ACode := .ops [
 ⟨some 48, none, .q (.mv (.t 3)), []⟩,
 ⟨some 49, none, .q (.bin .eql (.t 48) (.v (.int .i32 35))), []⟩,
 ⟨some 47, none, .q (.mv (.t 49)), []⟩]
def c106_20 : ACode := .ops [
 ⟨some 50, none, .q (.mv (.t 0)), []⟩,
 ⟨some 51, none, .e (.call 124 [(.t 50)]), []⟩,
 ⟨some 2, none, .q (.mv (.t 51)), []⟩]
def c106_21 : ACode := .seq c106_20 .ret
def c106_22 : ACode := .ops [
 ⟨some 10, none, .q (.mv (.t 0)), []⟩,
 ⟨some 11, none, .q (.mv (.t 3)), []⟩,
 ⟨some 12, none, .q (.mv (.t 4)), []⟩,
 ⟨some 13, none, .e (.call 125 [(.t 10), (.t 11), (.t 12)]), []⟩,
 ⟨some 2, none, .q (.mv (.t 13)), []⟩]
def c106_23 : ACode := .seq c106_22 .ret
def c106_24 : ACode := .cond (.t 47) c106_21 c106_23
def c106_25 : ACode := .seq c106_19 c106_24
def c106_26 : ACode := .cond (.t 42) c106_18 c106_25
def c106_27 : ACode := .seq c106_16 c106_26
def c106_28 : ACode := .cond (.t 32) c106_15 c106_27
def c106_29 : ACode := .seq c106_13 c106_28
def c106_30 : ACode := .cond (.t 17) c106_12 c106_29
def c106_31 : ACode := .seq c106_11 c106_30
def c106_32 : ACode := .cond (.t 14) c106_4 c106_31
def c106_33 : ACode := .seq c106_2 c106_32
def c106_34 : ACode := .block 0 c106_33
def c106_35 : ACode := .ops [
 ⟨some 2, none, .q (.mv (.v (.int .i64 0))), []⟩]
def c106_36 : ACode := .seq c106_35 .ret
def c106_37 : ACode := .seq c106_34 c106_36
def c106_38 : ACode := .seq c106_1 c106_37
def c106_39 : ACode := .seq c106_0 c106_38
@[go_sem] theorem c106_0_wp : type_of% (wp_of c106_0.eq_1) := wp_of c106_0.eq_1
@[go_sem] theorem c106_1_wp : type_of% (wp_of c106_1.eq_1) := wp_of c106_1.eq_1
@[go_sem] theorem c106_2_wp : type_of% (wp_of c106_2.eq_1) := wp_of c106_2.eq_1
@[go_sem] theorem c106_3_wp : type_of% (wp_of c106_3.eq_1) := wp_of c106_3.eq_1
@[go_sem] theorem c106_4_wp : type_of% (wp_of c106_4.eq_1) := wp_of c106_4.eq_1
@[go_sem] theorem c106_5_wp : type_of% (wp_of c106_5.eq_1) := wp_of c106_5.eq_1
@[go_sem] theorem c106_6_wp : type_of% (wp_of c106_6.eq_1) := wp_of c106_6.eq_1
@[go_sem] theorem c106_7_wp : type_of% (wp_of c106_7.eq_1) := wp_of c106_7.eq_1
@[go_sem] theorem c106_8_wp : type_of% (wp_of c106_8.eq_1) := wp_of c106_8.eq_1
@[go_sem] theorem c106_9_wp : type_of% (wp_of c106_9.eq_1) := wp_of c106_9.eq_1
@[go_sem] theorem c106_10_wp : type_of% (wp_of c106_10.eq_1) := wp_of c106_10.eq_1
@[go_sem] theorem c106_11_wp : type_of% (wp_of c106_11.eq_1) := wp_of c106_11.eq_1
@[go_sem] theorem c106_12_wp : type_of% (wp_of c106_12.eq_1) := wp_of c106_12.eq_1
@[go_sem] theorem c106_13_wp : type_of% (wp_of c106_13.eq_1) := wp_of c106_13.eq_1
@[go_sem] theorem c106_14_wp : type_of% (wp_of c106_14.eq_1) := wp_of c106_14.eq_1
@[go_sem] theorem c106_15_wp : type_of% (wp_of c106_15.eq_1) := wp_of c106_15.eq_1
@[go_sem] theorem c106_16_wp : type_of% (wp_of c106_16.eq_1) := wp_of c106_16.eq_1
@[go_sem] theorem c106_17_wp : type_of% (wp_of c106_17.eq_1) := wp_of c106_17.eq_1
@[go_sem] theorem c106_18_wp : type_of% (wp_of c106_18.eq_1) := wp_of c106_18.eq_1
@[go_sem] theorem c106_19_wp : type_of% (wp_of c106_19.eq_1) := wp_of c106_19.eq_1
@[go_sem] theorem c106_20_wp : type_of% (wp_of c106_20.eq_1) := wp_of c106_20.eq_1
@[go_sem] theorem c106_21_wp : type_of% (wp_of c106_21.eq_1) := wp_of c106_21.eq_1
@[go_sem] theorem c106_22_wp : type_of% (wp_of c106_22.eq_1) := wp_of c106_22.eq_1
@[go_sem] theorem c106_23_wp : type_of% (wp_of c106_23.eq_1) := wp_of c106_23.eq_1
@[go_sem] theorem c106_24_wp : type_of% (wp_of c106_24.eq_1) := wp_of c106_24.eq_1
@[go_sem] theorem c106_25_wp : type_of% (wp_of c106_25.eq_1) := wp_of c106_25.eq_1
@[go_sem] theorem c106_26_wp : type_of% (wp_of c106_26.eq_1) := wp_of c106_26.eq_1
@[go_sem] theorem c106_27_wp : type_of% (wp_of c106_27.eq_1) := wp_of c106_27.eq_1
@[go_sem] theorem c106_28_wp : type_of% (wp_of c106_28.eq_1) := wp_of c106_28.eq_1
@[go_sem] theorem c106_29_wp : type_of% (wp_of c106_29.eq_1) := wp_of c106_29.eq_1
@[go_sem] theorem c106_30_wp : type_of% (wp_of c106_30.eq_1) := wp_of c106_30.eq_1
@[go_sem] theorem c106_31_wp : type_of% (wp_of c106_31.eq_1) := wp_of c106_31.eq_1
@[go_sem] theorem c106_32_wp : type_of% (wp_of c106_32.eq_1) := wp_of c106_32.eq_1
@[go_sem] theorem c106_33_wp : type_of% (wp_of c106_33.eq_1) := wp_of c106_33.eq_1
@[go_sem] theorem c106_34_wp : type_of% (wp_of c106_34.eq_1) := wp_of c106_34.eq_1
@[go_sem] theorem c106_35_wp : type_of% (wp_of c106_35.eq_1) := wp_of c106_35.eq_1
@[go_sem] theorem c106_36_wp : type_of% (wp_of c106_36.eq_1) := wp_of c106_36.eq_1
@[go_sem] theorem c106_37_wp : type_of% (wp_of c106_37.eq_1) := wp_of c106_37.eq_1
@[go_sem] theorem c106_38_wp : type_of% (wp_of c106_38.eq_1) := wp_of c106_38.eq_1
@[go_sem] theorem c106_39_wp : type_of% (wp_of c106_39.eq_1) := wp_of c106_39.eq_1
def c106 : AFn := ⟨52, [.t 2], c106_39⟩
set_option maxRecDepth 100000 in
theorem c106_ok : compF Tryz.prog Tryz.f106 = some c106 := by kernel_rfl
theorem a106 {args : List AV} {σ : ASt} {R : AV → ASt → Prop} (hl : args.length ≤ 52) (h : c106_39.wp Tryz.prog (RetQ [.t 2] R) (init args) σ) : ACalls Tryz.prog 106 args σ R := acalls_of Tryz.func106 c106_ok hl h
/-! 107: (*tabular/token.lexer).put -/
def c107_0 : ACode := .ops [
 ⟨some 8, none, .q (.mv (.t 0)), []⟩,
 ⟨some 9, none, .q (.mv (.t 0)), []⟩,
 ⟨some 10, none, .q (.nc (.t 9)), []⟩,
 ⟨some 11, none, .q (.fa 3 (.t 10)), []⟩,
 ⟨some 12, none, .q (.ld none (.t 11)), []⟩,
 ⟨some 13, none, .q (.mv (.t 1)), []⟩,
 ⟨some 14, none, .q (.mv (.t 2)), []⟩,
 ⟨some 15, none, .q (.mv (.t 0)), []⟩,
 ⟨some 16, none, .q (.nc (.t 15)), []⟩,
 ⟨some 17, none, .q (.fa 1 (.t 16)), []⟩,
 ⟨some 18, none, .q (.ld none (.t 17)), []⟩,
 ⟨some 19, none, .q (.mv (.t 0)), []⟩,
 ⟨some 20, none, .q (.nc (.t 19)), []⟩,
 ⟨some 21, none, .q (.fa 2 (.t 20)), []⟩,
 ⟨some 22, none, .q (.ld none (.t 21)), []⟩,
 ⟨some 23, none, .q (.build [(.int .i64 0), (.str []), (.int .i64 0), (.int .i64 0)] [(0, 1, (.t 13)), (1, 1, (.t 14)), (2, 1, (.t 18)), (3, 1, (.t 22))]), []⟩,
 ⟨some 24, none, .q (.bsl 4 [(.t 23)]), []⟩,
 ⟨some 25, none, .e (.app 133 4 40 [(.int .i64 0), (.str []), (.int .i64 0), (.int .i64 0)] (.t 12) (.t 24)), []⟩,
 ⟨some 26, none, .q (.nc (.t 8)), []⟩,
 ⟨some 27, none, .q (.fa 3 (.t 26)), []⟩,
 ⟨none, none, .e (.store 1 (.t 27) (.t 25)), []⟩]
def c107_1 : ACode := .ops [
 ⟨some 28, none, .q (.mv (.t 0)), []⟩,
 ⟨some 29, none, .q (.nc (.t 28)), []⟩,
 ⟨some 30, none, .q (.fa 2 (.t 29)), []⟩,
 ⟨some 31, none, .q (.ld none (.t 30)), []⟩,
 ⟨some 32, none, .q (.mv (.t 0)), []⟩,
 ⟨some 33, none, .q (.nc (.t 32)), []⟩,
 ⟨some 34, none, .q (.fa 0 (.t 33)), []⟩,
 ⟨some 35, none, .q (.ld none (.t 34)), []⟩,
 ⟨some 36, none, .q (.mv (.t 0)), []⟩,
 ⟨some 37, none, .q (.nc (.t 36)), []⟩,
 ⟨some 38, none, .q (.fa 1 (.t 37)), []⟩,
 ⟨some 39, none, .q (.ld none (.t 38)), []⟩,
 ⟨some 40, none, .q (.mv (.t 0)), []⟩,
 ⟨some 41, none, .q (.nc (.t 40)), []⟩,
 ⟨some 42, none, .q (.fa 1 (.t 41)), []⟩,
 ⟨some 43, none, .q (.ld none (.t 42)), []⟩,
 ⟨some 44, none, .q (.mv (.t 3)), []⟩,
 ⟨some 45, none, .q (.bin .add (.t 43) (.t 44)), []⟩,
 ⟨some 46, none, .q (.sls (true, 0) (.t 35) (.t 39) (.t 45)), []⟩,
 ⟨some 47, none, .e (.call 126 [(.t 46)]), [⟨none, .ld none (.t 30), 31⟩]⟩,
 ⟨some 48, none, .q (.bin .add (.t 31) (.t 47)), []⟩,
 ⟨some 49, none, .q (.nc (.t 28)), []⟩,
 ⟨some 50, none, .q (.fa 2 (.t 49)), []⟩,
 ⟨none, none, .e (.store 1 (.t 50) (.t 48)), []⟩]
def c107_2 : ACode := .ops [
 ⟨some 51, none, .q (.mv (.t 0)), []⟩,
 ⟨some 52, none, .q (.nc (.t 51)), []⟩,
 ⟨some 53, none, .q (.fa 1 (.t 52)), []⟩,
 ⟨some 54, none, .q (.ld none (.t 53)), []⟩,
 ⟨some 55, none, .q (.mv (.t 3)), []⟩,
 ⟨some 56, none, .q (.bin .add (.t 54) (.t 55)), []⟩,
 ⟨some 57, none, .q (.nc (.t 51)), []⟩,
 ⟨some 58, none, .q (.fa 1 (.t 57)), []⟩,
 ⟨none, none, .e (.store 1 (.t 58) (.t 56)), []⟩]
def c107_3 : ACode := .seq c107_1 c107_2
def c107_4 : ACode := .seq c107_0 c107_3
@[go_sem] theorem c107_0_wp : type_of% (wp_of c107_0.eq_1) := wp_of c107_0.eq_1
@[go_sem] theorem c107_1_wp : type_of% (wp_of c107_1.eq_1) := wp_of c107_1.eq_1
@[go_sem] theorem c107_2_wp : type_of% (wp_of c107_2.eq_1) := wp_of c107_2.eq_1
@[go_sem] theorem c107_3_wp : type_of% (wp_of c107_3.eq_1) := wp_of c107_3.eq_1
@[go_sem] theorem c107_4_wp : type_of% (wp_of c107_4.eq_1) := wp_of c107_4.eq_1
def c107 : AFn := ⟨59, [], c107_4⟩
set_option maxRecDepth 100000 in
theorem c107_ok : compF Tryz.prog Tryz.f107 = some c107 := by kernel_rfl
theorem a107 {args : List AV} {σ : ASt} {R : AV → ASt → Prop} (hl : args.length ≤ 59) (h : c107_4.wp Tryz.prog (RetQ [] R) (init args) σ) : ACalls Tryz.prog 107 args σ R := acalls_of Tryz.func107 c107_ok hl h
/-! 119: (*tabular/token.lexer).sign -/
def c119_0 : ACode := .ops [
 ⟨some 2, none, .q (.mv (.v (.int .i32 0))), []⟩,
 ⟨some 3, none, .q (.mv (.v (.int .i64 0))), []⟩]
def c119_1 : ACode := .ops [
 ⟨some 6, none, .q (.mv (.t 0)), []⟩,
 ⟨some 7, none, .q (.nc (.t 6)), []⟩,
 ⟨some 8, none, .q (.fa 1 (.t 7)), []⟩,
 ⟨some 9, none, .q (.ld none (.t 8)), []⟩,
 ⟨some 10, none, .q (.mv (.t 0)), []⟩,
 ⟨some 11, none, .q (.nc (.t 10)), []⟩,
 ⟨some 12, none, .q (.fa 0 (.t 11)), []⟩,
 ⟨some 13, none, .q (.ld none (.t 12)), []⟩,
 ⟨some 14, none, .q (.lenS (.t 13)), []⟩,
 ⟨some 15, none, .q (.bin .geq (.t 9) (.t 14)), []⟩]
def c119_2 : ACode := .ops [
 ⟨some 2, none, .q (.mv (.v (.int .i32 0))), []⟩,
 ⟨some 3, none, .q (.mv (.v (.int .i64 0))), []⟩]
def c119_3 : ACode := .seq c119_2 .ret
def c119_4 : ACode := .cond (.t 15) c119_3 .skip
def c119_5 : ACode := .seq c119_1 c119_4
def c119_6 : ACode := .ops [
 ⟨some 17, none, .q (.mv (.t 0)), []⟩,
 ⟨some 18, none, .q (.nc (.t 17)), []⟩,
 ⟨some 19, none, .q (.fa 0 (.t 18)), []⟩,
 ⟨some 20, none, .q (.ld none (.t 19)), []⟩,
 ⟨some 21, none, .q (.mv (.t 0)), []⟩,
 ⟨some 22, none, .q (.nc (.t 21)), []⟩,
 ⟨some 23, none, .q (.fa 1 (.t 22)), []⟩,
 ⟨some 24, none, .q (.ld none (.t 23)), []⟩,
 ⟨some 25, none, .q (.slfrom (true, 0) (.t 20) (.t 24)), []⟩,
 ⟨some 26, none, .e (.call 94 [(.t 25)]), []⟩,
 ⟨some 16, none, .q (.mv (.t 26)), []⟩,
 ⟨some 27, none, .q (.ext 0 (.t 16)), []⟩,
 ⟨some 28, none, .q (.ext 1 (.t 16)), []⟩,
 ⟨some 4, none, .q (.mv (.t 27)), []⟩,
 ⟨some 5, none, .q (.mv (.t 28)), []⟩]
def c119_7 : ACode := .ops [
 ⟨some 29, none, .q (.mv (.t 4)), []⟩,
 ⟨some 30, none, .q (.bin .eql (.t 29) (.v (.int .i32 65533))), []⟩,
 ⟨some 31, none, .q (.mv (.t 30)), []⟩,
 ⟨some 32, some (31, true), .q (.mv (.t 5)), []⟩,
 ⟨some 33, some (31, true), .q (.bin .eql (.t 32) (.v (.int .i64 1))), []⟩,
 ⟨some 34, none, .q (.pick (.t 31) (.t 33) (.v (.bool false))), []⟩]
def c119_8 : ACode := .ops [
 ⟨some 2, none, .q (.mv (.v (.int .i32 0))), []⟩,
 ⟨some 3, none, .q (.mv (.v (.int .i64 (-1)))), []⟩]
def c119_9 : ACode := .seq c119_8 .ret
def c119_10 : ACode := .cond (.t 34) c119_9 .skip
def c119_11 : ACode := .seq c119_7 c119_10
def c119_12 : ACode := .ops [
 ⟨some 35, none, .q (.mv (.t 4)), []⟩,
 ⟨some 36, none, .q (.mv (.t 5)), []⟩,
 ⟨some 2, none, .q (.mv (.t 35)), []⟩,
 ⟨some 3, none, .q (.mv (.t 36)), []⟩]
def c119_13 : ACode := .seq c119_12 .ret
def c119_14 : ACode := .seq c119_11 c119_13
def c119_15 : ACode := .seq c119_6 c119_14
def c119_16 : ACode := .seq c119_5 c119_15
def c119_17 : ACode := .seq c119_0 c119_16
@[go_sem] theorem c119_0_wp : type_of% (wp_of c119_0.eq_1) := wp_of c119_0.eq_1
@[go_sem] theorem c119_1_wp : type_of% (wp_of c119_1.eq_1) := wp_of c119_1.eq_1
@[go_sem] theorem c119_4_wp : type_of% (wp_of c119_4.eq_1) := wp_of c119_4.eq_1
@[go_sem] theorem c119_5_wp : type_of% (wp_of c119_5.eq_1) := wp_of c119_5.eq_1
@[go_sem] theorem c119_6_wp : type_of% (wp_of c119_6.eq_1) := wp_of c119_6.eq_1
@[go_sem] theorem c119_7_wp : type_of% (wp_of c119_7.eq_1) := wp_of c119_7.eq_1
@[go_sem] theorem c119_8_wp : type_of% (wp_of c119_8.eq_1) := wp_of c119_8.eq_1
@[go_sem] theorem c119_9_wp : type_of% (wp_of c119_9.eq_1) := wp_of c119_9.eq_1
@[go_sem] theorem c119_10_wp : type_of% (wp_of c119_10.eq_1) := wp_of c119_10.eq_1
@[go_sem] theorem c119_11_wp : type_of% (wp_of c119_11.eq_1) := wp_of c119_11.eq_1
@[go_sem] theorem c119_12_wp : type_of% (wp_of c119_12.eq_1) := wp_of c119_12.eq_1
@[go_sem] theorem c119_13_wp : type_of% (wp_of c119_13.eq_1) := wp_of c119_13.eq_1
@[go_sem] theorem c119_14_wp : type_of% (wp_of c119_14.eq_1) := wp_of c119_14.eq_1
@[go_sem] theorem c119_15_wp : type_of% (wp_of c119_15.eq_1) := wp_of c119_15.eq_1
@[go_sem] theorem c119_16_wp : type_of% (wp_of c119_16.eq_1) := wp_of c119_16.eq_1
@[go_sem] theorem c119_17_wp : type_of% (wp_of c119_17.eq_1) := wp_of c119_17.eq_1
def c119 : AFn := ⟨37, [.t 2, .t 3], c119_17⟩
set_option maxRecDepth 100000 in
theorem c119_ok : compF Tryz.prog Tryz.f119 = some c119 := by kernel_rfl
theorem a119 {args : List AV} {σ : ASt} {R : AV → ASt → Prop} (hl : args.length ≤ 37) (h : c119_17.wp Tryz.prog (RetQ [.t 2, .t 3] R) (init args) σ) : ACalls Tryz.prog 119 args σ R := acalls_of Tryz.func119 c119_ok hl h
/-! 120: (*tabular/token.lexer).pass -/
def c120_0 : ACode := .ops [
 ⟨some 4, none, .q (.mv (.t 0)), []⟩,
 ⟨some 5, none, .q (.nc (.t 4)), []⟩,
 ⟨some 6, none, .q (.fa 2 (.t 5)), []⟩,
 ⟨some 7, none, .q (.ld none (.t 6)), []⟩,
 ⟨some 8, none, .q (.mv (.t 0)), []⟩,
 ⟨some 9, none, .q (.nc (.t 8)), []⟩,
 ⟨some 10, none, .q (.fa 0 (.t 9)), []⟩,
 ⟨some 11, none, .q (.ld none (.t 10)), []⟩,
 ⟨some 12, none, .q (.mv (.t 0)), []⟩,
 ⟨some 13, none, .q (.nc (.t 12)), []⟩,
 ⟨some 14, none, .q (.fa 1 (.t 13)), []⟩,
 ⟨some 15, none, .q (.ld none (.t 14)), []⟩,
 ⟨some 16, none, .q (.mv (.t 1)), []⟩,
 ⟨some 17, none, .q (.sls (true, 0) (.t 11) (.t 15) (.t 16)), []⟩,
 ⟨some 18, none, .e (.call 126 [(.t 17)]), [⟨none, .ld none (.t 6), 7⟩]⟩,
 ⟨some 19, none, .q (.bin .add (.t 7) (.t 18)), []⟩,
 ⟨some 20, none, .q (.nc (.t 4)), []⟩,
 ⟨some 21, none, .q (.fa 2 (.t 20)), []⟩,
 ⟨none, none, .e (.store 1 (.t 21) (.t 19)), []⟩]
def c120_1 : ACode := .ops [
 ⟨some 22, none, .q (.mv (.t 0)), []⟩,
 ⟨some 23, none, .q (.mv (.t 1)), []⟩,
 ⟨some 24, none, .q (.nc (.t 22)), []⟩,
 ⟨some 25, none, .q (.fa 1 (.t 24)), []⟩,
 ⟨none, none, .e (.store 1 (.t 25) (.t 23)), []⟩]
def c120_2 : ACode := .seq c120_0 c120_1
@[go_sem] theorem c120_0_wp : type_of% (wp_of c120_0.eq_1) := wp_of c120_0.eq_1
@[go_sem] theorem c120_1_wp : type_of% (wp_of c120_1.eq_1) := wp_of c120_1.eq_1
@[go_sem] theorem c120_2_wp : type_of% (wp_of c120_2.eq_1) := wp_of c120_2.eq_1
def c120 : AFn := ⟨26, [], c120_2⟩
set_option maxRecDepth 100000 in
theorem c120_ok : compF Tryz.prog Tryz.f120 = some c120 := by kernel_rfl
theorem a120 {args : List AV} {σ : ASt} {R : AV → ASt → Prop} (hl : args.length ≤ 26) (h : c120_2.wp Tryz.prog (RetQ [] R) (init args) σ) : ACalls Tryz.prog 120 args σ R := acalls_of Tryz.func120 c120_ok hl h
/-! 122: (*tabular/token.lexer).words -/
def c122_0 : ACode := .ops [
 ⟨some 2, none, .q (.mv (.v (.int .i64 0))), []⟩]
def c122_1 : ACode := .ops [
 ⟨some 3, none, .q (.mv (.v (.int .i64 0))), []⟩]
def c122_2 : ACode := .ops [
 ⟨some 5, none, .q (.mv (.t 0)), []⟩,
 ⟨some 6, none, .q (.nc (.t 5)), []⟩,
 ⟨some 7, none, .q (.fa 1 (.t 6)), []⟩,
 ⟨some 8, none, .q (.ld none (.t 7)), []⟩,
 ⟨some 9, none, .q (.mv (.t 3)), []⟩,
 ⟨some 10, none, .q (.bin .add (.t 8) (.t 9)), []⟩,
 ⟨some 11, none, .q (.mv (.t 0)), []⟩,
 ⟨some 12, none, .q (.nc (.t 11)), []⟩,
 ⟨some 13, none, .q (.fa 0 (.t 12)), []⟩,
 ⟨some 14, none, .q (.ld none (.t 13)), []⟩,
 ⟨some 15, none, .q (.lenS (.t 14)), []⟩,
 ⟨some 16, none, .q (.bin .lss (.t 10) (.t 15)), []⟩,
 ⟨some 17, none, .q (.mv (.t 16)), []⟩,
 ⟨some 18, some (17, true), .q (.mv (.t 0)), []⟩,
 ⟨some 19, some (17, true), .q (.nc (.t 18)), []⟩,
 ⟨some 20, some (17, true), .q (.fa 0 (.t 19)), []⟩,
 ⟨some 21, some (17, true), .q (.ld none (.t 20)), []⟩,
 ⟨some 22, some (17, true), .q (.mv (.t 0)), []⟩,
 ⟨some 23, some (17, true), .q (.nc (.t 22)), []⟩,
 ⟨some 24, some (17, true), .q (.fa 1 (.t 23)), []⟩,
 ⟨some 25, some (17, true), .q (.ld none (.t 24)), []⟩,
 ⟨some 26, some (17, true), .q (.mv (.t 3)), []⟩,
 ⟨some 27, some (17, true), .q (.bin .add (.t 25) (.t 26)), []⟩,
 ⟨some 28, some (17, true), .q (.idx (.t 21) (.t 27)), []⟩,
 ⟨some 29, some (17, true), .e (.call 121 [(.t 28)]), []⟩,
 ⟨some 30, none, .q (.pick (.t 17) (.t 29) (.v (.bool false))), []⟩]
def c122_3 : ACode := .cond (.t 30) .skip (.exit 0)
def c122_4 : ACode := .seq c122_2 c122_3
def c122_5 : ACode := .ops [
 ⟨some 31, none, .q (.mv (.t 3)), []⟩,
 ⟨some 32, none, .q (.bin .add (.t 31) (.v (.int .i64 1))), []⟩,
 ⟨some 3, none, .q (.mv (.t 32)), []⟩]
def c122_6 : ACode := .block 1 c122_5
def c122_7 : ACode := .seq c122_4 c122_6
def c122_8 : ACode := .loop c122_7
def c122_9 : ACode := .block 0 c122_8
def c122_10 : ACode := .ops [
 ⟨some 33, none, .q (.mv (.t 0)), []⟩,
 ⟨some 34, none, .q (.nc (.t 33)), []⟩,
 ⟨some 35, none, .q (.fa 0 (.t 34)), []⟩,
 ⟨some 36, none, .q (.ld none (.t 35)), []⟩,
 ⟨some 37, none, .q (.mv (.t 0)), []⟩,
 ⟨some 38, none, .q (.nc (.t 37)), []⟩,
 ⟨some 39, none, .q (.fa 1 (.t 38)), []⟩,
 ⟨some 40, none, .q (.ld none (.t 39)), []⟩,
 ⟨some 41, none, .q (.mv (.t 0)), []⟩,
 ⟨some 42, none, .q (.nc (.t 41)), []⟩,
 ⟨some 43, none, .q (.fa 1 (.t 42)), []⟩,
 ⟨some 44, none, .q (.ld none (.t 43)), []⟩,
 ⟨some 45, none, .q (.mv (.t 3)), []⟩,
 ⟨some 46, none, .q (.bin .add (.t 44) (.t 45)), []⟩,
 ⟨some 47, none, .q (.sls (true, 0) (.t 36) (.t 40) (.t 46)), []⟩,
 ⟨some 4, none, .q (.mv (.t 47)), []⟩]
def c122_11 : ACode := .ops [
 ⟨some 49, none, .q (.mv (.t 4)), []⟩,
 ⟨some 50, none, .e (.call 137 [(.t 49)]), []⟩,
 ⟨some 48, none, .q (.mv (.t 50)), []⟩]
def c122_12 : ACode := .ops [
 ⟨some 51, none, .q (.mv (.t 0)), []⟩,
 ⟨some 52, none, .q (.mv (.t 4)), []⟩,
 ⟨some 53, none, .q (.mv (.t 3)), []⟩,
 ⟨some 54, none, .e (.call 107 [(.t 51), (.v (.int .i64 1)), (.t 52), (.t 53)]), []⟩]
def c122_13 : ACode := .ops [
 ⟨some 56, none, .q (.mv (.t 4)), []⟩,
 ⟨some 57, none, .e (.call 138 [(.t 56)]), []⟩,
 ⟨some 55, none, .q (.mv (.t 57)), []⟩]
def c122_14 : ACode := .ops [
 ⟨some 58, none, .q (.mv (.t 0)), []⟩,
 ⟨some 59, none, .q (.mv (.t 4)), []⟩,
 ⟨some 60, none, .e (.call 139 [(.t 59)]), []⟩,
 ⟨some 61, none, .q (.mv (.t 3)), []⟩,
 ⟨some 62, none, .e (.call 107 [(.t 58), (.v (.int .i64 4)), (.t 60), (.t 61)]), []⟩]
def c122_15 : ACode := .ops [
 ⟨some 64, none, .q (.mv (.t 4)), []⟩,
 ⟨some 65, none, .e (.call 140 [(.t 64)]), []⟩,
 ⟨some 63, none, .q (.mv (.t 65)), []⟩]
def c122_16 : ACode := .ops [
 ⟨some 66, none, .q (.mv (.t 0)), []⟩,
 ⟨some 67, none, .q (.mv (.t 4)), []⟩,
 ⟨some 68, none, .e (.call 139 [(.t 67)]), []⟩,
 ⟨some 69, none, .q (.mv (.t 3)), []⟩,
 ⟨some 70, none, .e (.call 107 [(.t 66), (.v (.int .i64 3)), (.t 68), (.t 69)]), []⟩]
def c122_17 : ACode := .ops [
 ⟨some 2, none, .q (.mv (.v (.int .i64 10))), []⟩]
def c122_18 : ACode := .seq c122_17 .ret
def c122_19 : ACode := .cond (.t 63) c122_16 c122_18
def c122_20 : ACode := .seq c122_15 c122_19
def c122_21 : ACode := .cond (.t 55) c122_14 c122_20
def c122_22 : ACode := .seq c122_13 c122_21
def c122_23 : ACode := .cond (.t 48) c122_12 c122_22
def c122_24 : ACode := .seq c122_11 c122_23
def c122_25 : ACode := .block 2 c122_24
def c122_26 : ACode := .ops [
 ⟨some 2, none, .q (.mv (.v (.int .i64 0))), []⟩]
def c122_27 : ACode := .seq c122_26 .ret
def c122_28 : ACode := .seq c122_25 c122_27
def c122_29 : ACode := .seq c122_10 c122_28
def c122_30 : ACode := .seq c122_9 c122_29
def c122_31 : ACode := .seq c122_1 c122_30
def c122_32 : ACode := .seq c122_0 c122_31
@[go_sem] theorem c122_0_wp : type_of% (wp_of c122_0.eq_1) := wp_of c122_0.eq_1
@[go_sem] theorem c122_1_wp : type_of% (wp_of c122_1.eq_1) := wp_of c122_1.eq_1
@[go_sem] theorem c122_2_wp : type_of% (wp_of c122_2.eq_1) := wp_of c122_2.eq_1
@[go_sem] theorem c122_3_wp : type_of% (wp_of c122_3.eq_1) := wp_of c122_3.eq_1
@[go_sem] theorem c122_4_wp : type_of% (wp_of c122_4.eq_1) := wp_of c122_4.eq_1
@[go_sem] theorem c122_5_wp : type_of% (wp_of c122_5.eq_1) := wp_of c122_5.eq_1
@[go_sem] theorem c122_6_wp : type_of% (wp_of c122_6.eq_1) := wp_of c122_6.eq_1
@[go_sem] theorem c122_7_wp : type_of% (wp_of c122_7.eq_1) := wp_of c122_7.eq_1
@[go_sem] theorem c122_8_wp : type_of% (wp_of c122_8.eq_1) := wp_of c122_8.eq_1
@[go_sem] theorem c122_9_wp : type_of% (wp_of c122_9.eq_1) := wp_of c122_9.eq_1
@[go_sem] theorem c122_10_wp : type_of% (wp_of c122_10.eq_1) := wp_of c122_10.eq_1
@[go_sem] theorem c122_11_wp : type_of% (wp_of c122_11.eq_1) := wp_of c122_11.eq_1
@[go_sem] theorem c122_12_wp : type_of% (wp_of c122_12.eq_1) := wp_of c122_12.eq_1
@[go_sem] theorem c122_13_wp : type_of% (wp_of c122_13.eq_1) := wp_of c122_13.eq_1
@[go_sem] theorem c122_14_wp : type_of% (wp_of c122_14.eq_1) := wp_of c122_14.eq_1
@[go_sem] theorem c122_15_wp : type_of% (wp_of c122_15.eq_1) := wp_of c122_15.eq_1
@[go_sem] theorem c122_16_wp : type_of% (wp_of c122_16.eq_1) := wp_of c122_16.eq_1
@[go_sem] theorem c122_17_wp : type_of% (wp_of c122_17.eq_1) := wp_of c122_17.eq_1
@[go_sem] theorem c122_18_wp : type_of% (wp_of c122_18.eq_1) := wp_of c122_18.eq_1
@[go_sem] theorem c122_19_wp : type_of% (wp_of c122_19.eq_1) := wp_of c122_19.eq_1
@[go_sem] theorem c122_20_wp : type_of% (wp_of c122_20.eq_1) := wp_of c122_20.eq_1
@[go_sem] theorem c122_21_wp : type_of% (wp_of c122_21.eq_1) := wp_of c122_21.eq_1
@[go_sem] theorem c122_22_wp : type_of% (wp_of c122_22.eq_1) := wp_of c122_22.eq_1
@[go_sem] theorem c122_23_wp : type_of% (wp_of c122_23.eq_1) := wp_of c122_23.eq_1
@[go_sem] theorem c122_24_wp : type_of% (wp_of c122_24.eq_1) := wp_of c122_24.eq_1
@[go_sem] theorem c122_25_wp : type_of% (wp_of c122_25.eq_1) := wp_of c122_25.eq_1
@[go_sem] theorem c122_26_wp : type_of% (wp_of c122_26.eq_1) := wp_of c122_26.eq_1
@[go_sem] theorem c122_27_wp : type_of% (wp_of c122_27.eq_1) := wp_of c122_27.eq_1
@[go_sem] theorem c122_28_wp : type_of% (wp_of c122_28.eq_1) := wp_of c122_28.eq_1
@[go_sem] theorem c122_29_wp : type_of% (wp_of c122_29.eq_1) := wp_of c122_29.eq_1
@[go_sem] theorem c122_30_wp : type_of% (wp_of c122_30.eq_1) := wp_of c122_30.eq_1
@[go_sem] theorem c122_31_wp : type_of% (wp_of c122_31.eq_1) := wp_of c122_31.eq_1
@[go_sem] theorem c122_32_wp : type_of% (wp_of c122_32.eq_1) := wp_of c122_32.eq_1
def c122 : AFn := ⟨71, [.t 2], c122_32⟩
set_option maxRecDepth 100000 in
theorem c122_ok : compF Tryz.prog Tryz.f122 = some c122 := by kernel_rfl
theorem a122 {args : List AV} {σ : ASt} {R : AV → ASt → Prop} (hl : args.length ≤ 71) (h : c122_32.wp Tryz.prog (RetQ [.t 2] R) (init args) σ) : ACalls Tryz.prog 122 args σ R := acalls_of Tryz.func122 c122_ok hl h
/-! 123: (*tabular/token.lexer).quoted -/
def c123_0 : ACode := .ops [
 ⟨some 2, none, .q (.mv (.v (.int .i64 0))), []⟩]
def c123_1 : ACode := .ops [
 ⟨some 3, none, .e (.allocT 72), []⟩]
def c123_2 : ACode := .ops [
 ⟨some 4, none, .q (.mv (.v (.bool true))), []⟩]
def c123_3 : ACode := .ops [
 ⟨some 5, none, .q (.mv (.v (.int .i64 1))), []⟩]
def c123_4 : ACode := .ops [
 ⟨some 11, none, .q (.mv (.t 0)), []⟩,
 ⟨some 12, none, .q (.nc (.t 11)), []⟩,
 ⟨some 13, none, .q (.fa 0 (.t 12)), []⟩,
 ⟨some 14, none, .q (.ld none (.t 13)), []⟩,
 ⟨some 15, none, .q (.mv (.t 0)), []⟩,
 ⟨some 16, none, .q (.nc (.t 15)), []⟩,
 ⟨some 17, none, .q (.fa 1 (.t 16)), []⟩,
 ⟨some 18, none, .q (.ld none (.t 17)), []⟩,
 ⟨some 19, none, .q (.bin .add (.t 18) (.v (.int .i64 1))), []⟩,
 ⟨some 20, none, .q (.slfrom (true, 0) (.t 14) (.t 19)), []⟩,
 ⟨some 21, none, .e (.rng (.t 20)), []⟩]
def c123_5 : ACode := .ops [
 ⟨some 22, none, .e (.nxt (.t 21)), []⟩,
 ⟨some 23, none, .q (.ext 0 (.t 22)), []⟩]
def c123_6 : ACode := .cond (.t 23) .skip (.exit 0)
def c123_7 : ACode := .ops [
 ⟨some 24, none, .q (.ext 1 (.t 22)), []⟩,
 ⟨some 25, none, .q (.ext 2 (.t 22)), []⟩,
 ⟨some 6, none, .q (.mv (.t 24)), []⟩,
 ⟨some 7, none, .q (.mv (.t 25)), []⟩]
def c123_8 : ACode := .ops [
 ⟨some 26, none, .q (.mv (.t 6)), []⟩,
 ⟨some 27, none, .q (.bin .add (.t 26) (.v (.int .i64 1))), []⟩,
 ⟨some 28, none, .q (.mv (.t 5)), []⟩,
 ⟨some 29, none, .q (.bin .lss (.t 27) (.t 28)), []⟩]
def c123_9 : ACode := .cond (.t 29) (.exit 1) .skip
def c123_10 : ACode := .seq c123_8 c123_9
def c123_11 : ACode := .ops [
 ⟨some 30, none, .q (.mv (.t 0)), []⟩,
 ⟨some 31, none, .q (.nc (.t 30)), []⟩,
 ⟨some 32, none, .q (.fa 1 (.t 31)), []⟩,
 ⟨some 33, none, .q (.ld none (.t 32)), []⟩,
 ⟨some 34, none, .q (.bin .add (.t 33) (.v (.int .i64 1))), []⟩,
 ⟨some 35, none, .q (.mv (.t 6)), []⟩,
 ⟨some 36, none, .q (.bin .add (.t 34) (.t 35)), []⟩,
 ⟨some 8, none, .q (.mv (.t 36)), []⟩]
def c123_12 : ACode := .ops [
 ⟨some 37, none, .q (.mv (.t 7)), []⟩,
 ⟨some 38, none, .q (.bin .eql (.t 37) (.v (.int .i32 65533))), []⟩]
def c123_13 : ACode := .ops [
 ⟨some 40, none, .q (.mv (.t 0)), []⟩,
 ⟨some 41, none, .q (.nc (.t 40)), []⟩,
 ⟨some 42, none, .q (.fa 0 (.t 41)), []⟩,
 ⟨some 43, none, .q (.ld none (.t 42)), []⟩,
 ⟨some 44, none, .q (.mv (.t 8)), []⟩,
 ⟨some 45, none, .q (.slfrom (true, 0) (.t 43) (.t 44)), []⟩,
 ⟨some 46, none, .e (.call 94 [(.t 45)]), []⟩,
 ⟨some 39, none, .q (.mv (.t 46)), []⟩,
 ⟨some 47, none, .q (.ext 0 (.t 39)), []⟩,
 ⟨some 48, none, .q (.ext 1 (.t 39)), []⟩,
 ⟨some 9, none, .q (.mv (.t 47)), []⟩,
 ⟨some 10, none, .q (.mv (.t 48)), []⟩]
def c123_14 : ACode := .ops [
 ⟨some 49, none, .q (.mv (.t 10)), []⟩,
 ⟨some 50, none, .q (.bin .eql (.t 49) (.v (.int .i64 1))), []⟩]
def c123_15 : ACode := .ops [
 ⟨some 51, none, .q (.mv (.t 0)), []⟩,
 ⟨some 52, none, .q (.mv (.t 8)), []⟩,
 ⟨some 53, none, .e (.call 120 [(.t 51), (.t 52)]), []⟩]
def c123_16 : ACode := .ops [
 ⟨some 2, none, .q (.mv (.v (.int .i64 10))), []⟩]
def c123_17 : ACode := .seq c123_16 .ret
def c123_18 : ACode := .seq c123_15 c123_17
def c123_19 : ACode := .cond (.t 50) c123_18 .skip
def c123_20 : ACode := .seq c123_14 c123_19
def c123_21 : ACode := .seq c123_13 c123_20
def c123_22 : ACode := .cond (.t 38) c123_21 .skip
def c123_23 : ACode := .seq c123_12 c123_22
def c123_24 : ACode := .ops [
 ⟨some 54, none, .q (.mv (.t 7)), []⟩,
 ⟨some 55, none, .q (.bin .neq (.t 54) (.v (.int .i32 34))), []⟩]
def c123_25 : ACode := .ops [
 ⟨some 56, none, .q (.mv (.t 7)), []⟩,
 ⟨some 57, none, .e (.call 141 [(.t 3), (.t 56)]), []⟩]
def c123_26 : ACode := .ops [
 ⟨some 58, none, .q (.mv (.t 6)), []⟩,
 ⟨some 59, none, .q (.bin .add (.t 58) (.v (.int .i64 1))), []⟩,
 ⟨some 60, none, .q (.mv (.t 7)), []⟩,
 ⟨some 61, none, .e (.call 142 [(.t 60)]), []⟩,
 ⟨some 62, none, .q (.bin .add (.t 59) (.t 61)), []⟩,
 ⟨some 5, none, .q (.mv (.t 62)), []⟩]
def c123_27 : ACode := .seq c123_26 (.exit 1)
def c123_28 : ACode := .seq c123_25 c123_27
def c123_29 : ACode := .cond (.t 55) c123_28 .skip
def c123_30 : ACode := .seq c123_24 c123_29
def c123_31 : ACode := .ops [
 ⟨some 63, none, .q (.mv (.t 8)), []⟩,
 ⟨some 64, none, .q (.bin .add (.t 63) (.v (.int .i64 1))), []⟩,
 ⟨some 65, none, .q (.mv (.t 0)), []⟩,
 ⟨some 66, none, .q (.nc (.t 65)), []⟩,
 ⟨some 67, none, .q (.fa 0 (.t 66)), []⟩,
 ⟨some 68, none, .q (.ld none (.t 67)), []⟩,
 ⟨some 69, none, .q (.lenS (.t 68)), []⟩,
 ⟨some 70, none, .q (.bin .lss (.t 64) (.t 69)), []⟩,
 ⟨some 71, none, .q (.mv (.t 70)), []⟩,
 ⟨some 72, some (71, true), .q (.mv (.t 0)), []⟩,
 ⟨some 73, some (71, true), .q (.nc (.t 72)), []⟩,
 ⟨some 74, some (71, true), .q (.fa 0 (.t 73)), []⟩,
 ⟨some 75, some (71, true), .q (.ld none (.t 74)), []⟩,
 ⟨some 76, some (71, true), .q (.mv (.t 8)), []⟩,
 ⟨some 77, some (71, true), .q (.bin .add (.t 76) (.v (.int .i64 1))), []⟩,
 ⟨some 78, some (71, true), .q (.idx (.t 75) (.t 77)), []⟩,
 ⟨some 79, some (71, true), .q (.bin .eql (.t 78) (.v (.int .u8 34))), []⟩,
 ⟨some 80, none, .q (.pick (.t 71) (.t 79) (.v (.bool false))), []⟩]
def c123_32 : ACode := .ops [
 ⟨some 81, none, .e (.call 62 [(.t 3), (.v (.int .u8 34))]), []⟩]
def c123_33 : ACode := .ops [
 ⟨some 82, none, .q (.mv (.t 6)), []⟩,
 ⟨some 83, none, .q (.bin .add (.t 82) (.v (.int .i64 3))), []⟩,
 ⟨some 5, none, .q (.mv (.t 83)), []⟩]
def c123_34 : ACode := .seq c123_33 (.exit 1)
def c123_35 : ACode := .seq c123_32 c123_34
def c123_36 : ACode := .cond (.t 80) c123_35 .skip
def c123_37 : ACode := .seq c123_31 c123_36
def c123_38 : ACode := .ops [
 ⟨some 84, none, .q (.mv (.t 6)), []⟩,
 ⟨some 85, none, .q (.bin .add (.t 84) (.v (.int .i64 2))), []⟩,
 ⟨some 5, none, .q (.mv (.t 85)), []⟩]
def c123_39 : ACode := .ops [
 ⟨some 4, none, .q (.mv (.v (.bool false))), []⟩]
def c123_40 : ACode := .seq c123_39 (.exit 0)
def c123_41 : ACode := .seq c123_38 c123_40
def c123_42 : ACode := .seq c123_37 c123_41
def c123_43 : ACode := .seq c123_30 c123_42
def c123_44 : ACode := .seq c123_23 c123_43
def c123_45 : ACode := .seq c123_11 c123_44
def c123_46 : ACode := .seq c123_10 c123_45
def c123_47 : ACode := .seq c123_7 c123_46
def c123_48 : ACode := .block 1 c123_47
def c123_49 : ACode := .seq c123_6 c123_48
def c123_50 : ACode := .seq c123_5 c123_49
def c123_51 : ACode := .loop c123_50
def c123_52 : ACode := .block 0 c123_51
def c123_53 : ACode := .seq c123_4 c123_52
def c123_54 : ACode := .ops [
 ⟨some 86, none, .q (.mv (.t 4)), []⟩]
def c123_55 : ACode := .ops [
 ⟨some 2, none, .q (.mv (.v (.int .i64 10))), []⟩]
def c123_56 : ACode := .seq c123_55 .ret
def c123_57 : ACode := .cond (.t 86) c123_56 .skip
def c123_58 : ACode := .seq c123_54 c123_57
def c123_59 : ACode := .ops [
 ⟨some 87, none, .q (.mv (.t 0)), []⟩,
 ⟨some 88, none, .e (.call 33 [(.t 3)]), []⟩,
 ⟨some 89, none, .q (.mv (.t 5)), []⟩,
 ⟨some 90, none, .e (.call 107 [(.t 87), (.v (.int .i64 2)), (.t 88), (.t 89)]), []⟩]
def c123_60 : ACode := .ops [
 ⟨some 2, none, .q (.mv (.v (.int .i64 0))), []⟩]
def c123_61 : ACode := .seq c123_60 .ret
def c123_62 : ACode := .seq c123_59 c123_61
def c123_63 : ACode := .seq c123_58 c123_62
def c123_64 : ACode := .seq c123_53 c123_63
def c123_65 : ACode := .seq c123_3 c123_64
def c123_66 : ACode := .seq c123_2 c123_65
def c123_67 : ACode := .seq c123_1 c123_66
def c123_68 : ACode := .seq c123_0 c123_67
@[go_sem] theorem c123_0_wp : type_of% (wp_of c123_0.eq_1) := wp_of c123_0.eq_1
@[go_sem] theorem c123_1_wp : type_of% (wp_of c123_1.eq_1) := wp_of c123_1.eq_1
@[go_sem] theorem c123_2_wp : type_of% (wp_of c123_2.eq_1) := wp_of c123_2.eq_1
@[go_sem] theorem c123_3_wp : type_of% (wp_of c123_3.eq_1) := wp_of c123_3.eq_1
@[go_sem] theorem c123_4_wp : type_of% (wp_of c123_4.eq_1) := wp_of c123_4.eq_1
@[go_sem] theorem c123_5_wp : type_of% (wp_of c123_5.eq_1) := wp_of c123_5.eq_1
@[go_sem] theorem c123_6_wp : type_of% (wp_of c123_6.eq_1) := wp_of c123_6.eq_1
@[go_sem] theorem c123_7_wp : type_of% (wp_of c123_7.eq_1) := wp_of c123_7.eq_1
@[go_sem] theorem c123_8_wp : type_of% (wp_of c123_8.eq_1) := wp_of c123_8.eq_1
@[go_sem] theorem c123_9_wp : type_of% (wp_of c123_9.eq_1) := wp_of c123_9.eq_1
@[go_sem] theorem c123_10_wp : type_of% (wp_of c123_10.eq_1) := wp_of c123_10.eq_1
@[go_sem] theorem c123_11_wp : type_of% (wp_of c123_11.eq_1) := wp_of c123_11.eq_1
@[go_sem] theorem c123_12_wp : type_of% (wp_of c123_12.eq_1) := wp_of c123_12.eq_1
@[go_sem] theorem c123_13_wp : type_of% (wp_of c123_13.eq_1) := wp_of c123_13.eq_1
@[go_sem] theorem c123_14_wp : type_of% (wp_of c123_14.eq_1) := wp_of c123_14.eq_1
@[go_sem] theorem c123_15_wp : type_of% (wp_of c123_15.eq_1) := wp_of c123_15.eq_1
@[go_sem] theorem c123_16_wp : type_of% (wp_of c123_16.eq_1) := wp_of c123_16.eq_1
@[go_sem] theorem c123_17_wp : type_of% (wp_of c123_17.eq_1) := wp_of c123_17.eq_1
@[go_sem] theorem c123_18_wp : type_of% (wp_of c123_18.eq_1) := wp_of c123_18.eq_1
@[go_sem] theorem c123_19_wp : type_of% (wp_of c123_19.eq_1) := wp_of c123_19.eq_1
@[go_sem] theorem c123_20_wp : type_of% (wp_of c123_20.eq_1) := wp_of c123_20.eq_1
@[go_sem] theorem c123_21_wp : type_of% (wp_of c123_21.eq_1) := wp_of c123_21.eq_1
@[go_sem] theorem c123_22_wp : type_of% (wp_of c123_22.eq_1) := wp_of c123_22.eq_1
@[go_sem] theorem c123_23_wp : type_of% (wp_of c123_23.eq_1) := wp_of c123_23.eq_1
@[go_sem] theorem c123_24_wp : type_of% (wp_of c123_24.eq_1) := wp_of c123_24.eq_1
@[go_sem] theorem c123_25_wp : type_of% (wp_of c123_25.eq_1) := wp_of c123_25.eq_1
@[go_sem] theorem c123_26_wp : type_of% (wp_of c123_26.eq_1) := wp_of c123_26.eq_1
@[go_sem] theorem c123_27_wp : type_of% (wp_of c123_27.eq_1) := wp_of c123_27.eq_1
@[go_sem] theorem c123_28_wp : type_of% (wp_of c123_28.eq_1) := wp_of c123_28.eq_1
@[go_sem] theorem c123_29_wp : type_of% (wp_of c123_29.eq_1) := wp_of c123_29.eq_1
@[go_sem] theorem c123_30_wp : type_of% (wp_of c123_30.eq_1) := wp_of c123_30.eq_1
@[go_sem] theorem c123_31_wp : type_of% (wp_of c123_31.eq_1) := wp_of c123_31.eq_1
@[go_sem] theorem c123_32_wp : type_of% (wp_of c123_32.eq_1) := wp_of c123_32.eq_1
@[go_sem] theorem c123_33_wp : type_of% (wp_of c123_33.eq_1) := wp_of c123_33.eq_1
@[go_sem] theorem c123_34_wp : type_of% (wp_of c123_34.eq_1) := wp_of c123_34.eq_1
@[go_sem] theorem c123_35_wp : type_of% (wp_of c123_35.eq_1) := wp_of c123_35.eq_1
@[go_sem] theorem c123_36_wp : type_of% (wp_of c123_36.eq_1) := wp_of c123_36.eq_1
@[go_sem] theorem c123_37_wp : type_of% (wp_of c123_37.eq_1) := wp_of c123_37.eq_1
@[go_sem] theorem c123_38_wp : type_of% (wp_of c123_38.eq_1) := wp_of c123_38.eq_1
@[go_sem] theorem c123_39_wp : type_of% (wp_of c123_39.eq_1) := wp_of c123_39.eq_1
@[go_sem] theorem c123_40_wp : type_of% (wp_of c123_40.eq_1) := wp_of c123_40.eq_1
@[go_sem] theorem c123_41_wp : type_of% (wp_of c123_41.eq_1) := wp_of c123_41.eq_1
@[go_sem] theorem c123_42_wp : type_of% (wp_of c123_42.eq_1) := wp_of c123_42.eq_1
@[go_sem] theorem c123_43_wp : type_of% (wp_of c123_43.eq_1) := wp_of c123_43.eq_1
@[go_sem] theorem c123_44_wp : type_of% (wp_of c123_44.eq_1) := wp_of c123_44.eq_1
@[go_sem] theorem c123_45_wp : type_of% (wp_of c123_45.eq_1) := wp_of c123_45.eq_1
@[go_sem] theorem c123_46_wp : type_of% (wp_of c123_46.eq_1) := wp_of c123_46.eq_1
@[go_sem] theorem c123_47_wp : type_of% (wp_of c123_47.eq_1) := wp_of c123_47.eq_1
@[go_sem] theorem c123_48_wp : type_of% (wp_of c123_48.eq_1) := wp_of c123_48.eq_1
@[go_sem] theorem c123_49_wp : type_of% (wp_of c123_49.eq_1) := wp_of c123_49.eq_1
@[go_sem] theorem c123_50_wp : type_of% (wp_of c123_50.eq_1) := wp_of c123_50.eq_1
@[go_sem] theorem c123_51_wp : type_of% (wp_of c123_51.eq_1) := wp_of c123_51.eq_1
@[go_sem] theorem c123_52_wp : type_of% (wp_of c123_52.eq_1) := wp_of c123_52.eq_1
@[go_sem] theorem c123_53_wp : type_of% (wp_of c123_53.eq_1) := wp_of c123_53.eq_1
@[go_sem] theorem c123_54_wp : type_of% (wp_of c123_54.eq_1) := wp_of c123_54.eq_1
@[go_sem] theorem c123_55_wp : type_of% (wp_of c123_55.eq_1) := wp_of c123_55.eq_1
@[go_sem] theorem c123_56_wp : type_of% (wp_of c123_56.eq_1) := wp_of c123_56.eq_1
@[go_sem] theorem c123_57_wp : type_of% (wp_of c123_57.eq_1) := wp_of c123_57.eq_1
@[go_sem] theorem c123_58_wp : type_of% (wp_of c123_58.eq_1) := wp_of c123_58.eq_1
@[go_sem] theorem c123_59_wp : type_of% (wp_of c123_59.eq_1) := wp_of c123_59.eq_1
@[go_sem] theorem c123_60_wp : type_of% (wp_of c123_60.eq_1) := wp_of c123_60.eq_1
@[go_sem] theorem c123_61_wp : type_of% (wp_of c123_61.eq_1) := wp_of c123_61.eq_1
@[go_sem] theorem c123_62_wp : type_of% (wp_of c123_62.eq_1) := wp_of c123_62.eq_1
@[go_sem] theorem c123_63_wp : type_of% (wp_of c123_63.eq_1) := wp_of c123_63.eq_1
@[go_sem] theorem c123_64_wp : type_of% (wp_of c123_64.eq_1) := wp_of c123_64.eq_1
@[go_sem] theorem c123_65_wp : type_of% (wp_of c123_65.eq_1) := wp_of c123_65.eq_1
@[go_sem] theorem c123_66_wp : type_of% (wp_of c123_66.eq_1) := wp_of c123_66.eq_1
@[go_sem] theorem c123_67_wp : type_of% (wp_of c123_67.eq_1) := wp_of c123_67.eq_1
@[go_sem] theorem c123_68_wp : type_of% (wp_of c123_68.eq_1) := wp_of c123_68.eq_1
def c123 : AFn := ⟨91, [.t 2], c123_68⟩
set_option maxRecDepth 100000 in
theorem c123_ok : compF Tryz.prog Tryz.f123 = some c123 := by kernel_rfl
theorem a123 {args : List AV} {σ : ASt} {R : AV → ASt → Prop} (hl : args.length ≤ 91) (h : c123_68.wp Tryz.prog (RetQ [.t 2] R) (init args) σ) : ACalls Tryz.prog 123 args σ R := acalls_of Tryz.func123 c123_ok hl h
/-! 124: (*tabular/token.lexer).failure -/
def c124_0 : ACode := .ops [
 ⟨some 2, none, .q (.mv (.v (.int .i64 0))), []⟩]
def c124_1 : ACode := .ops [
 ⟨some 6, none, .e (.call 51 []), []⟩,
 ⟨some 7, none, .q (.len (.t 6)), []⟩,
 ⟨some 8, none, .q (.mv (.v (.int .i64 0))), []⟩]
def c124_2 : ACode := .ops [
 ⟨some 9, none, .q (.bin .lss (.t 8) (.t 7)), []⟩]
def c124_3 : ACode := .cond (.t 9) .skip (.exit 0)
def c124_4 : ACode := .ops [
 ⟨some 10, none, .q (.ia 1 (.t 6) (.t 8)), []⟩,
 ⟨some 11, none, .q (.ld none (.t 10)), []⟩,
 ⟨some 4, none, .q (.mv (.t 11)), []⟩]
def c124_5 : ACode := .ops [
 ⟨some 12, none, .q (.mv (.t 4)), []⟩,
 ⟨some 13, none, .q (.lenS (.t 12)), []⟩,
 ⟨some 5, none, .q (.mv (.t 13)), []⟩]
def c124_6 : ACode := .ops [
 ⟨some 14, none, .q (.mv (.t 0)), []⟩,
 ⟨some 15, none, .q (.nc (.t 14)), []⟩,
 ⟨some 16, none, .q (.fa 1 (.t 15)), []⟩,
 ⟨some 17, none, .q (.ld none (.t 16)), []⟩,
 ⟨some 18, none, .q (.mv (.t 5)), []⟩,
 ⟨some 19, none, .q (.bin .add (.t 17) (.t 18)), []⟩,
 ⟨some 20, none, .q (.mv (.t 0)), []⟩,
 ⟨some 21, none, .q (.nc (.t 20)), []⟩,
 ⟨some 22, none, .q (.fa 0 (.t 21)), []⟩,
 ⟨some 23, none, .q (.ld none (.t 22)), []⟩,
 ⟨some 24, none, .q (.lenS (.t 23)), []⟩,
 ⟨some 25, none, .q (.bin .leq (.t 19) (.t 24)), []⟩,
 ⟨some 26, none, .q (.mv (.t 25)), []⟩,
 ⟨some 27, some (26, true), .q (.mv (.t 0)), []⟩,
 ⟨some 28, some (26, true), .q (.nc (.t 27)), []⟩,
 ⟨some 29, some (26, true), .q (.fa 0 (.t 28)), []⟩,
 ⟨some 30, some (26, true), .q (.ld none (.t 29)), []⟩,
 ⟨some 31, some (26, true), .q (.mv (.t 0)), []⟩,
 ⟨some 32, some (26, true), .q (.nc (.t 31)), []⟩,
 ⟨some 33, some (26, true), .q (.fa 1 (.t 32)), []⟩,
 ⟨some 34, some (26, true), .q (.ld none (.t 33)), []⟩,
 ⟨some 35, some (26, true), .q (.mv (.t 0)), []⟩,
 ⟨some 36, some (26, true), .q (.nc (.t 35)), []⟩,
 ⟨some 37, some (26, true), .q (.fa 1 (.t 36)), []⟩,
 ⟨some 38, some (26, true), .q (.ld none (.t 37)), []⟩,
 ⟨some 39, some (26, true), .q (.mv (.t 5)), []⟩,
 ⟨some 40, some (26, true), .q (.bin .add (.t 38) (.t 39)), []⟩,
 ⟨some 41, some (26, true), .q (.sls (true, 0) (.t 30) (.t 34) (.t 40)), []⟩,
 ⟨some 43, some (26, true), .q (.mv (.t 4)), []⟩,
 ⟨some 42, some (26, true), .e (.call 139 [(.t 41)]), []⟩,
 ⟨some 44, some (26, true), .q (.bin .eql (.t 42) (.t 43)), []⟩,
 ⟨some 45, none, .q (.pick (.t 26) (.t 44) (.v (.bool false))), []⟩]
def c124_7 : ACode := .ops [
 ⟨some 46, none, .q (.mv (.t 0)), []⟩,
 ⟨some 47, none, .q (.mv (.t 4)), []⟩,
 ⟨some 48, none, .q (.mv (.t 5)), []⟩,
 ⟨some 49, none, .e (.call 107 [(.t 46), (.v (.int .i64 5)), (.t 47), (.t 48)]), []⟩]
def c124_8 : ACode := .ops [
 ⟨some 2, none, .q (.mv (.v (.int .i64 0))), []⟩]
def c124_9 : ACode := .seq c124_8 .ret
def c124_10 : ACode := .seq c124_7 c124_9
def c124_11 : ACode := .cond (.t 45) c124_10 .skip
def c124_12 : ACode := .seq c124_6 c124_11
def c124_13 : ACode := .seq c124_5 c124_12
def c124_14 : ACode := .seq c124_4 c124_13
def c124_15 : ACode := .block 1 c124_14
def c124_16 : ACode := .ops [
 ⟨some 50, none, .q (.bin .add (.t 8) (.v (.int .i64 1))), []⟩,
 ⟨some 8, none, .q (.mv (.t 50)), []⟩]
def c124_17 : ACode := .seq c124_15 c124_16
def c124_18 : ACode := .seq c124_3 c124_17
def c124_19 : ACode := .seq c124_2 c124_18
def c124_20 : ACode := .loop c124_19
def c124_21 : ACode := .block 0 c124_20
def c124_22 : ACode := .seq c124_1 c124_21
def c124_23 : ACode := .ops [
 ⟨some 2, none, .q (.mv (.v (.int .i64 10))), []⟩]
def c124_24 : ACode := .seq c124_23 .ret
def c124_25 : ACode := .seq c124_22 c124_24
def c124_26 : ACode := .seq c124_0 c124_25
@[go_sem] theorem c124_0_wp : type_of% (wp_of c124_0.eq_1) := wp_of c124_0.eq_1
@[go_sem] theorem c124_1_wp : type_of% (wp_of c124_1.eq_1) := wp_of c124_1.eq_1
@[go_sem] theorem c124_2_wp : type_of% (wp_of c124_2.eq_1) := wp_of c124_2.eq_1
@[go_sem] theorem c124_3_wp : type_of% (wp_of c124_3.eq_1) := wp_of c124_3.eq_1
@[go_sem] theorem c124_4_wp : type_of% (wp_of c124_4.eq_1) := wp_of c124_4.eq_1
@[go_sem] theorem c124_5_wp : type_of% (wp_of c124_5.eq_1) := wp_of c124_5.eq_1
@[go_sem] theorem c124_6_wp : type_of% (wp_of c124_6.eq_1) := wp_of c124_6.eq_1
@[go_sem] theorem c124_7_wp : type_of% (wp_of c124_7.eq_1) := wp_of c124_7.eq_1
@[go_sem] theorem c124_8_wp : type_of% (wp_of c124_8.eq_1) := wp_of c124_8.eq_1
@[go_sem] theorem c124_9_wp : type_of% (wp_of c124_9.eq_1) := wp_of c124_9.eq_1
@[go_sem] theorem c124_10_wp : type_of% (wp_of c124_10.eq_1) := wp_of c124_10.eq_1
@[go_sem] theorem c124_11_wp : type_of% (wp_of c124_11.eq_1) := wp_of c124_11.eq_1
@[go_sem] theorem c124_12_wp : type_of% (wp_of c124_12.eq_1) := wp_of c124_12.eq_1
@[go_sem] theorem c124_13_wp : type_of% (wp_of c124_13.eq_1) := wp_of c124_13.eq_1
@[go_sem] theorem c124_14_wp : type_of% (wp_of c124_14.eq_1) := wp_of c124_14.eq_1
@[go_sem] theorem c124_15_wp : type_of% (wp_of c124_15.eq_1) := wp_of c124_15.eq_1
@[go_sem] theorem c124_16_wp : type_of% (wp_of c124_16.eq_1) := wp_of c124_16.eq_1
@[go_sem] theorem c124_17_wp : type_of% (wp_of c124_17.eq_1) := wp_of c124_17.eq_1
@[go_sem] theorem c124_18_wp : type_of% (wp_of c124_18.eq_1) := wp_of c124_18.eq_1
@[go_sem] theorem c124_19_wp : type_of% (wp_of c124_19.eq_1) := wp_of c124_19.eq_1
@[go_sem] theorem c124_20_wp : type_of% (wp_of c124_20.eq_1) := wp_of c124_20.eq_1
@[go_sem] theorem c124_21_wp : type_of% (wp_of c124_21.eq_1) := wp_of c124_21.eq_1
@[go_sem] theorem c124_22_wp : type_of% (wp_of c124_22.eq_1) := wp_of c124_22.eq_1
@[go_sem] theorem c124_23_wp : type_of% (wp_of c124_23.eq_1) := wp_of c124_23.eq_1
@[go_sem] theorem c124_24_wp : type_of% (wp_of c124_24.eq_1) := wp_of c124_24.eq_1
@[go_sem] theorem c124_25_wp : type_of% (wp_of c124_25.eq_1) := wp_of c124_25.eq_1
@[go_sem] theorem c124_26_wp : type_of% (wp_of c124_26.eq_1) := wp_of c124_26.eq_1
def c124 : AFn := ⟨51, [.t 2], c124_26⟩
set_option maxRecDepth 100000 in
theorem c124_ok : compF Tryz.prog Tryz.f124 = some c124 := by kernel_rfl
theorem a124 {args : List AV} {σ : ASt} {R : AV → ASt → Prop} (hl : args.length ≤ 51) (h : c124_26.wp Tryz.prog (RetQ [.t 2] R) (init args) σ) : ACalls Tryz.prog 124 args σ R := acalls_of Tryz.func124 c124_ok hl h
/-! 125: (*tabular/token.lexer).op -/
def c125_0 : ACode := .ops [
 ⟨some 6, none, .q (.mv (.v (.int .i64 0))), []⟩]
def c125_1 : ACode := .ops [
 ⟨some 10, none, .q (.mv (.t 1)), []⟩,
 ⟨some 11, none, .e (.call 143 [(.t 10)]), []⟩,
 ⟨some 7, none, .q (.mv (.t 11)), []⟩]
def c125_2 : ACode := .ops [
 ⟨some 12, none, .q (.mv (.t 7)), []⟩,
 ⟨some 13, none, .q (.bin .neq (.t 12) (.v (.str []))), []⟩]
def c125_3 : ACode := .ops [
 ⟨some 14, none, .q (.mv (.t 0)), []⟩,
 ⟨some 15, none, .q (.mv (.t 7)), []⟩,
 ⟨some 16, none, .q (.mv (.t 2)), []⟩,
 ⟨some 17, none, .e (.call 107 [(.t 14), (.v (.int .i64 6)), (.t 15), (.t 16)]), []⟩]
def c125_4 : ACode := .ops [
 ⟨some 6, none, .q (.mv (.v (.int .i64 0))), []⟩]
def c125_5 : ACode := .seq c125_4 .ret
def c125_6 : ACode := .seq c125_3 c125_5
def c125_7 : ACode := .cond (.t 13) c125_6 .skip
def c125_8 : ACode := .seq c125_2 c125_7
def c125_9 : ACode := .seq c125_1 c125_8
def c125_10 : ACode := .ops [
 ⟨some 18, none, .q (.bsl 1 [(.v (.str [60, 61])), (.v (.str [62, 61])), (.v (.str [60, 62]))]), []⟩,
 ⟨some 19, none, .q (.len (.t 18)), []⟩,
 ⟨some 20, none, .q (.mv (.v (.int .i64 0))), []⟩]
def c125_11 : ACode := .ops [
 ⟨some 21, none, .q (.bin .lss (.t 20) (.t 19)), []⟩]
def c125_12 : ACode := .cond (.t 21) .skip (.exit 0)
def c125_13 : ACode := .ops [
 ⟨some 22, none, .q (.ia 1 (.t 18) (.t 20)), []⟩,
 ⟨some 23, none, .q (.ld none (.t 22)), []⟩,
 ⟨some 9, none, .q (.mv (.t 23)), []⟩]
def c125_14 : ACode := .ops [
 ⟨some 24, none, .q (.mv (.t 0)), []⟩,
 ⟨some 25, none, .q (.nc (.t 24)), []⟩,
 ⟨some 26, none, .q (.fa 0 (.t 25)), []⟩,
 ⟨some 27, none, .q (.ld none (.t 26)), []⟩,
 ⟨some 28, none, .q (.mv (.t 0)), []⟩,
 ⟨some 29, none, .q (.nc (.t 28)), []⟩,
 ⟨some 30, none, .q (.fa 1 (.t 29)), []⟩,
 ⟨some 31, none, .q (.ld none (.t 30)), []⟩,
 ⟨some 32, none, .q (.slfrom (true, 0) (.t 27) (.t 31)), []⟩,
 ⟨some 33, none, .q (.mv (.t 9)), []⟩,
 ⟨some 34, none, .e (.call 144 [(.t 32), (.t 33)]), []⟩]
def c125_15 : ACode := .ops [
 ⟨some 35, none, .q (.mv (.t 0)), []⟩,
 ⟨some 36, none, .q (.mv (.t 9)), []⟩,
 ⟨some 37, none, .e (.call 107 [(.t 35), (.v (.int .i64 6)), (.t 36), (.v (.int .i64 2))]), []⟩]
def c125_16 : ACode := .ops [
 ⟨some 6, none, .q (.mv (.v (.int .i64 0))), []⟩]
def c125_17 : ACode := .seq c125_16 .ret
def c125_18 : ACode := .seq c125_15 c125_17
def c125_19 : ACode := .cond (.t 34) c125_18 .skip
def c125_20 : ACode := .seq c125_14 c125_19
def c125_21 : ACode := .seq c125_13 c125_20
def c125_22 : ACode := .block 1 c125_21
def c125_23 : ACode := .ops [
 ⟨some 38, none, .q (.bin .add (.t 20) (.v (.int .i64 1))), []⟩,
 ⟨some 20, none, .q (.mv (.t 38)), []⟩]
def c125_24 : ACode := .seq c125_22 c125_23
def c125_25 : ACode := .seq c125_12 c125_24
def c125_26 : ACode := .seq c125_11 c125_25
def c125_27 : ACode := .loop c125_26
def c125_28 : ACode := .block 0 c125_27
def c125_29 : ACode := .seq c125_10 c125_28
def c125_30 : ACode := .ops [
 ⟨some 39, none, .q (.mv (.t 0)), []⟩,
 ⟨some 40, none, .q (.nc (.t 39)), []⟩,
 ⟨some 41, none, .q (.fa 0 (.t 40)), []⟩,
 ⟨some 42, none, .q (.ld none (.t 41)), []⟩,
 ⟨some 43, none, .q (.mv (.t 0)), []⟩,
 ⟨some 44, none, .q (.nc (.t 43)), []⟩,
 ⟨some 45, none, .q (.fa 1 (.t 44)), []⟩,
 ⟨some 46, none, .q (.ld none (.t 45)), []⟩,
 ⟨some 47, none, .q (.idx (.t 42) (.t 46)), []⟩,
 ⟨some 48, none, .q (.bsl 1 [(.t 47)]), []⟩,
 ⟨some 49, none, .q (.b2s (.t 48)), []⟩,
 ⟨some 50, none, .e (.call 145 [(.v (.str [43, 45, 42, 47, 94, 38, 61, 60, 62, 37, 40, 41, 58, 44])), (.t 49)]), []⟩,
 ⟨some 51, none, .q (.un .not (.t 50)), []⟩]
def c125_31 : ACode := .ops [
 ⟨some 6, none, .q (.mv (.v (.int .i64 10))), []⟩]
def c125_32 : ACode := .seq c125_31 .ret
def c125_33 : ACode := .cond (.t 51) c125_32 .skip
def c125_34 : ACode := .seq c125_30 c125_33
def c125_35 : ACode := .ops [
 ⟨some 52, none, .q (.mv (.t 0)), []⟩,
 ⟨some 53, none, .q (.mv (.t 0)), []⟩,
 ⟨some 54, none, .q (.nc (.t 53)), []⟩,
 ⟨some 55, none, .q (.fa 0 (.t 54)), []⟩,
 ⟨some 56, none, .q (.ld none (.t 55)), []⟩,
 ⟨some 57, none, .q (.mv (.t 0)), []⟩,
 ⟨some 58, none, .q (.nc (.t 57)), []⟩,
 ⟨some 59, none, .q (.fa 1 (.t 58)), []⟩,
 ⟨some 60, none, .q (.ld none (.t 59)), []⟩,
 ⟨some 61, none, .q (.mv (.t 0)), []⟩,
 ⟨some 62, none, .q (.nc (.t 61)), []⟩,
 ⟨some 63, none, .q (.fa 1 (.t 62)), []⟩,
 ⟨some 64, none, .q (.ld none (.t 63)), []⟩,
 ⟨some 65, none, .q (.bin .add (.t 64) (.v (.int .i64 1))), []⟩,
 ⟨some 66, none, .q (.sls (true, 0) (.t 56) (.t 60) (.t 65)), []⟩,
 ⟨some 67, none, .e (.call 107 [(.t 52), (.v (.int .i64 6)), (.t 66), (.v (.int .i64 1))]), []⟩]
def c125_36 : ACode := .ops [
 ⟨some 6, none, .q (.mv (.v (.int .i64 0))), []⟩]
def c125_37 : ACode := .seq c125_36 .ret
def c125_38 : ACode := .seq c125_35 c125_37
def c125_39 : ACode := .seq c125_34 c125_38
def c125_40 : ACode := .seq c125_29 c125_39
def c125_41 : ACode := .seq c125_9 c125_40
def c125_42 : ACode := .seq c125_0 c125_41
@[go_sem] theorem c125_0_wp : type_of% (wp_of c125_0.eq_1) := wp_of c125_0.eq_1
@[go_sem] theorem c125_1_wp : type_of% (wp_of c125_1.eq_1) := wp_of c125_1.eq_1
@[go_sem] theorem c125_2_wp : type_of% (wp_of c125_2.eq_1) := wp_of c125_2.eq_1
@[go_sem] theorem c125_3_wp : type_of% (wp_of c125_3.eq_1) := wp_of c125_3.eq_1
@[go_sem] theorem c125_4_wp : type_of% (wp_of c125_4.eq_1) := wp_of c125_4.eq_1
@[go_sem] theorem c125_5_wp : type_of% (wp_of c125_5.eq_1) := wp_of c125_5.eq_1
@[go_sem] theorem c125_6_wp : type_of% (wp_of c125_6.eq_1) := wp_of c125_6.eq_1
@[go_sem] theorem c125_7_wp : type_of% (wp_of c125_7.eq_1) := wp_of c125_7.eq_1
@[go_sem] theorem c125_8_wp : type_of% (wp_of c125_8.eq_1) := wp_of c125_8.eq_1
@[go_sem] theorem c125_9_wp : type_of% (wp_of c125_9.eq_1) := wp_of c125_9.eq_1
@[go_sem] theorem c125_10_wp : type_of% (wp_of c125_10.eq_1) := wp_of c125_10.eq_1
@[go_sem] theorem c125_11_wp : type_of% (wp_of c125_11.eq_1) := wp_of c125_11.eq_1
@[go_sem] theorem c125_12_wp : type_of% (wp_of c125_12.eq_1) := wp_of c125_12.eq_1
@[go_sem] theorem c125_13_wp : type_of% (wp_of c125_13.eq_1) := wp_of c125_13.eq_1
@[go_sem] theorem c125_14_wp : type_of% (wp_of c125_14.eq_1) := wp_of c125_14.eq_1
@[go_sem] theorem c125_15_wp : type_of% (wp_of c125_15.eq_1) := wp_of c125_15.eq_1
@[go_sem] theorem c125_16_wp : type_of% (wp_of c125_16.eq_1) := wp_of c125_16.eq_1
@[go_sem] theorem c125_17_wp : type_of% (wp_of c125_17.eq_1) := wp_of c125_17.eq_1
@[go_sem] theorem c125_18_wp : type_of% (wp_of c125_18.eq_1) := wp_of c125_18.eq_1
@[go_sem] theorem c125_19_wp : type_of% (wp_of c125_19.eq_1) := wp_of c125_19.eq_1
@[go_sem] theorem c125_20_wp : type_of% (wp_of c125_20.eq_1) := wp_of c125_20.eq_1
@[go_sem] theorem c125_21_wp : type_of% (wp_of c125_21.eq_1) := wp_of c125_21.eq_1
@[go_sem] theorem c125_22_wp : type_of% (wp_of c125_22.eq_1) := wp_of c125_22.eq_1
@[go_sem] theorem c125_23_wp : type_of% (wp_of c125_23.eq_1) := wp_of c125_23.eq_1
@[go_sem] theorem c125_24_wp : type_of% (wp_of c125_24.eq_1) := wp_of c125_24.eq_1
@[go_sem] theorem c125_25_wp : type_of% (wp_of c125_25.eq_1) := wp_of c125_25.eq_1
@[go_sem] theorem c125_26_wp : type_of% (wp_of c125_26.eq_1) := wp_of c125_26.eq_1
@[go_sem] theorem c125_27_wp : type_of% (wp_of c125_27.eq_1) := wp_of c125_27.eq_1
@[go_sem] theorem c125_28_wp : type_of% (wp_of c125_28.eq_1) := wp_of c125_28.eq_1
@[go_sem] theorem c125_29_wp : type_of% (wp_of c125_29.eq_1) := wp_of c125_29.eq_1
@[go_sem] theorem c125_30_wp : type_of% (wp_of c125_30.eq_1) := wp_of c125_30.eq_1
@[go_sem] theorem c125_31_wp : type_of% (wp_of c125_31.eq_1) := wp_of c125_31.eq_1
@[go_sem] theorem c125_32_wp : type_of% (wp_of c125_32.eq_1) := wp_of c125_32.eq_1
@[go_sem] theorem c125_33_wp : type_of% (wp_of c125_33.eq_1) := wp_of c125_33.eq_1
@[go_sem] theorem c125_34_wp : type_of% (wp_of c125_34.eq_1) := wp_of c125_34.eq_1
@[go_sem] theorem c125_35_wp : type_of% (wp_of c125_35.eq_1) := wp_of c125_35.eq_1
@[go_sem] theorem c125_36_wp : type_of% (wp_of c125_36.eq_1) := wp_of c125_36.eq_1
@[go_sem] theorem c125_37_wp : type_of% (wp_of c125_37.eq_1) := wp_of c125_37.eq_1
@[go_sem] theorem c125_38_wp : type_of% (wp_of c125_38.eq_1) := wp_of c125_38.eq_1
@[go_sem] theorem c125_39_wp : type_of% (wp_of c125_39.eq_1) := wp_of c125_39.eq_1
@[go_sem] theorem c125_40_wp : type_of% (wp_of c125_40.eq_1) := wp_of c125_40.eq_1
@[go_sem] theorem c125_41_wp : type_of% (wp_of c125_41.eq_1) := wp_of c125_41.eq_1
@[go_sem] theorem c125_42_wp : type_of% (wp_of c125_42.eq_1) := wp_of c125_42.eq_1
def c125 : AFn := ⟨68, [.t 6], c125_42⟩
set_option maxRecDepth 100000 in
theorem c125_ok : compF Tryz.prog Tryz.f125 = some c125 := by kernel_rfl
theorem a125 {args : List AV} {σ : ASt} {R : AV → ASt → Prop} (hl : args.length ≤ 68) (h : c125_42.wp Tryz.prog (RetQ [.t 6] R) (init args) σ) : ACalls Tryz.prog 125 args σ R := acalls_of Tryz.func125 c125_ok hl h
end Go.A
