/- The functions, compiled: by program (wip/gencode.py). -/
import Derived.Test.YtmefepbdognkdaaGreatDoorBk
import Derived.Test.YtmefepbdognkdaaGreatDoorProg
import Derived.KernelRfl
namespace Go.A
open Go.Proofs

/-! 31: tabular/vint.Read -/
def c31_0 : ACode := .ops [
    ⟨(some 2), none, .q (.mv (.v .nilp)), []⟩]
def c31_1 : ACode := .ops [
    ⟨(some 3), none, .q (.mv (.t 0)), []⟩,
    ⟨(some 4), none, .q (.build [(.str []), (.int .i64 0), (.int .i64 0)] [(0, 1, (.t 3))]), []⟩,
    ⟨(some 5), none, .e (.box (.t 4)), []⟩,
    ⟨(some 2), none, .q (.mv (.t 5)), []⟩]
def c31_2 : ACode := .seq c31_1 .ret
def c31_3 : ACode := .seq c31_0 c31_2
@[go_sem] theorem c31_0_wp : type_of% (wp_of c31_0.eq_1) := wp_of c31_0.eq_1
@[go_sem] theorem c31_1_wp : type_of% (wp_of c31_1.eq_1) := wp_of c31_1.eq_1
@[go_sem] theorem c31_2_wp : type_of% (wp_of c31_2.eq_1) := wp_of c31_2.eq_1
@[go_sem] theorem c31_3_wp : type_of% (wp_of c31_3.eq_1) := wp_of c31_3.eq_1
def c31 : AFn := ⟨6, [.t 2], c31_3⟩
set_option maxRecDepth 100000 in
theorem c31_ok : compF Tryz.prog Tryz.f31 = some c31 := by kernel_rfl
theorem a31 {args : List AV} {σ : ASt} {R : AV → ASt → Prop} (hl : args.length ≤ 6) (h : c31_3.wp Tryz.prog (RetQ [.t 2] R) (init args) σ) : ACalls Tryz.prog 31 args σ R := acalls_of Tryz.func31 c31_ok hl h

/-! 36: (*tabular/vint.Reader).Done -/
def c36_0 : ACode := .ops [
    ⟨(some 2), none, .q (.mv (.v (.int .i64 0))), []⟩]
def c36_1 : ACode := .ops [
    ⟨(some 3), none, .q (.mv (.t 0)), []⟩,
    ⟨(some 4), none, .q (.nc (.t 3)), []⟩,
    ⟨(some 5), none, .q (.fa 1 (.t 4)), []⟩,
    ⟨(some 6), none, .q (.ld none (.t 5)), []⟩,
    ⟨(some 7), none, .q (.mv (.t 0)), []⟩,
    ⟨(some 8), none, .q (.nc (.t 7)), []⟩,
    ⟨(some 9), none, .q (.fa 0 (.t 8)), []⟩,
    ⟨(some 10), none, .q (.ld none (.t 9)), []⟩,
    ⟨(some 11), none, .q (.lenS (.t 10)), []⟩,
    ⟨(some 12), none, .q (.bin .lss (.t 6) (.t 11)), []⟩]
def c36_2 : ACode := .ops [
    ⟨(some 13), none, .q (.mv (.t 0)), []⟩,
    ⟨(some 14), none, .e (.call 112 [(.t 13), (.v (.int .i64 3))]), []⟩]
def c36_3 : ACode := .cond (.t 12) c36_2 .skip
def c36_4 : ACode := .seq c36_1 c36_3
def c36_5 : ACode := .ops [
    ⟨(some 15), none, .q (.mv (.t 0)), []⟩,
    ⟨(some 16), none, .q (.nc (.t 15)), []⟩,
    ⟨(some 17), none, .q (.fa 2 (.t 16)), []⟩,
    ⟨(some 18), none, .q (.ld none (.t 17)), []⟩,
    ⟨(some 2), none, .q (.mv (.t 18)), []⟩]
def c36_6 : ACode := .seq c36_5 .ret
def c36_7 : ACode := .seq c36_4 c36_6
def c36_8 : ACode := .seq c36_0 c36_7
@[go_sem] theorem c36_0_wp : type_of% (wp_of c36_0.eq_1) := wp_of c36_0.eq_1
@[go_sem] theorem c36_1_wp : type_of% (wp_of c36_1.eq_1) := wp_of c36_1.eq_1
@[go_sem] theorem c36_2_wp : type_of% (wp_of c36_2.eq_1) := wp_of c36_2.eq_1
@[go_sem] theorem c36_3_wp : type_of% (wp_of c36_3.eq_1) := wp_of c36_3.eq_1
@[go_sem] theorem c36_4_wp : type_of% (wp_of c36_4.eq_1) := wp_of c36_4.eq_1
@[go_sem] theorem c36_5_wp : type_of% (wp_of c36_5.eq_1) := wp_of c36_5.eq_1
@[go_sem] theorem c36_6_wp : type_of% (wp_of c36_6.eq_1) := wp_of c36_6.eq_1
@[go_sem] theorem c36_7_wp : type_of% (wp_of c36_7.eq_1) := wp_of c36_7.eq_1
@[go_sem] theorem c36_8_wp : type_of% (wp_of c36_8.eq_1) := wp_of c36_8.eq_1
def c36 : AFn := ⟨19, [.t 2], c36_8⟩
set_option maxRecDepth 100000 in
theorem c36_ok : compF Tryz.prog Tryz.f36 = some c36 := by kernel_rfl
theorem a36 {args : List AV} {σ : ASt} {R : AV → ASt → Prop} (hl : args.length ≤ 19) (h : c36_8.wp Tryz.prog (RetQ [.t 2] R) (init args) σ) : ACalls Tryz.prog 36 args σ R := acalls_of Tryz.func36 c36_ok hl h

/-! 106: (*tabular/vint.Reader).Uint -/
def c106_0 : ACode := .ops [
    ⟨(some 2), none, .q (.mv (.v (.int .u64 0))), []⟩]
def c106_1 : ACode := .ops [
    ⟨(some 3), none, .q (.mv (.v (.int .u64 0))), []⟩]
def c106_2 : ACode := .ops [
    ⟨(some 4), none, .q (.mv (.v (.int .i64 0))), []⟩]
def c106_3 : ACode := .ops [
    ⟨(some 6), none, .q (.mv (.t 0)), []⟩,
    ⟨(some 7), none, .q (.nc (.t 6)), []⟩,
    ⟨(some 8), none, .q (.fa 2 (.t 7)), []⟩,
    ⟨(some 9), none, .q (.ld none (.t 8)), []⟩,
    ⟨(some 10), none, .q (.bin .eql (.t 9) (.v (.int .i64 0))), []⟩]
def c106_4 : ACode := .cond (.t 10) .skip (.exit 0)
def c106_5 : ACode := .seq c106_3 c106_4
def c106_6 : ACode := .ops [
    ⟨(some 13), none, .q (.mv (.t 0)), []⟩,
    ⟨(some 14), none, .q (.nc (.t 13)), []⟩,
    ⟨(some 15), none, .q (.fa 1 (.t 14)), []⟩,
    ⟨(some 16), none, .q (.ld none (.t 15)), []⟩,
    ⟨(some 17), none, .q (.mv (.t 4)), []⟩,
    ⟨(some 18), none, .q (.bin .add (.t 16) (.t 17)), []⟩,
    ⟨(some 19), none, .q (.mv (.t 0)), []⟩,
    ⟨(some 20), none, .q (.nc (.t 19)), []⟩,
    ⟨(some 21), none, .q (.fa 0 (.t 20)), []⟩,
    ⟨(some 22), none, .q (.ld none (.t 21)), []⟩,
    ⟨(some 23), none, .q (.lenS (.t 22)), []⟩,
    ⟨(some 24), none, .q (.bin .geq (.t 18) (.t 23)), []⟩]
def c106_7 : ACode := .ops [
    ⟨(some 25), none, .q (.mv (.t 0)), []⟩,
    ⟨(some 26), none, .e (.call 112 [(.t 25), (.v (.int .i64 2))]), []⟩]
def c106_8 : ACode := .seq c106_7 (.exit 0)
def c106_9 : ACode := .cond (.t 24) c106_8 .skip
def c106_10 : ACode := .seq c106_6 c106_9
def c106_11 : ACode := .ops [
    ⟨(some 27), none, .q (.mv (.t 0)), []⟩,
    ⟨(some 28), none, .q (.nc (.t 27)), []⟩,
    ⟨(some 29), none, .q (.fa 0 (.t 28)), []⟩,
    ⟨(some 30), none, .q (.ld none (.t 29)), []⟩,
    ⟨(some 31), none, .q (.mv (.t 0)), []⟩,
    ⟨(some 32), none, .q (.nc (.t 31)), []⟩,
    ⟨(some 33), none, .q (.fa 1 (.t 32)), []⟩,
    ⟨(some 34), none, .q (.ld none (.t 33)), []⟩,
    ⟨(some 35), none, .q (.mv (.t 4)), []⟩,
    ⟨(some 36), none, .q (.bin .add (.t 34) (.t 35)), []⟩,
    ⟨(some 37), none, .q (.idx (.t 30) (.t 36)), []⟩,
    ⟨(some 5), none, .q (.mv (.t 37)), []⟩]
def c106_12 : ACode := .ops [
    ⟨(some 38), none, .q (.mv (.t 4)), []⟩,
    ⟨(some 39), none, .q (.bin .eql (.t 38) (.v (.int .i64 9))), []⟩,
    ⟨(some 40), none, .q (.mv (.t 39)), []⟩,
    ⟨(some 41), (some (40, true)), .q (.mv (.t 5)), []⟩,
    ⟨(some 42), (some (40, true)), .q (.bin .gtr (.t 41) (.v (.int .u8 1))), []⟩,
    ⟨(some 43), none, .q (.pick (.t 40) (.t 42) (.v (.bool false))), []⟩,
    ⟨(some 44), none, .q (.mv (.t 43)), []⟩,
    ⟨(some 45), (some (44, false)), .q (.mv (.t 4)), []⟩,
    ⟨(some 46), (some (44, false)), .q (.bin .gtr (.t 45) (.v (.int .i64 0))), []⟩,
    ⟨(some 47), (some (44, false)), .q (.mv (.t 46)), []⟩,
    ⟨(some 48), (some (47, true)), .q (.mv (.t 5)), []⟩,
    ⟨(some 49), (some (47, true)), .q (.bin .eql (.t 48) (.v (.int .u8 0))), []⟩,
    ⟨(some 50), (some (44, false)), .q (.pick (.t 47) (.t 49) (.v (.bool false))), []⟩,
    ⟨(some 51), none, .q (.pick (.t 44) (.v (.bool true)) (.t 50)), []⟩]
def c106_13 : ACode := .ops [
    ⟨(some 52), none, .q (.mv (.t 0)), []⟩,
    ⟨(some 53), none, .e (.call 112 [(.t 52), (.v (.int .i64 3))]), []⟩]
def c106_14 : ACode := .seq c106_13 (.exit 0)
def c106_15 : ACode := .cond (.t 51) c106_14 .skip
def c106_16 : ACode := .seq c106_12 c106_15
def c106_17 : ACode := .ops [
    ⟨(some 54), none, .q (.mv (.t 3)), []⟩,
    ⟨(some 55), none, .q (.mv (.t 5)), []⟩,
    ⟨(some 56), none, .q (.bin .and (.t 55) (.v (.int .u8 127))), []⟩,
    ⟨(some 57), none, .q (.conv .u64 (.t 56)), []⟩,
    ⟨(some 58), none, .q (.mv (.t 4)), []⟩,
    ⟨(some 59), none, .q (.bin .mul (.v (.int .i64 7)) (.t 58)), []⟩,
    ⟨(some 60), none, .q (.bin .shl (.t 57) (.t 59)), []⟩,
    ⟨(some 61), none, .q (.bin .or (.t 54) (.t 60)), []⟩,
    ⟨(some 3), none, .q (.mv (.t 61)), []⟩]
def c106_18 : ACode := .ops [
    ⟨(some 62), none, .q (.mv (.t 5)), []⟩,
    ⟨(some 63), none, .q (.bin .lss (.t 62) (.v (.int .u8 128))), []⟩]
def c106_19 : ACode := .ops [
    ⟨(some 64), none, .q (.mv (.t 0)), []⟩,
    ⟨(some 65), none, .q (.nc (.t 64)), []⟩,
    ⟨(some 66), none, .q (.fa 1 (.t 65)), []⟩,
    ⟨(some 67), none, .q (.ld none (.t 66)), []⟩,
    ⟨(some 68), none, .q (.mv (.t 4)), []⟩,
    ⟨(some 69), none, .q (.bin .add (.t 68) (.v (.int .i64 1))), []⟩,
    ⟨(some 70), none, .q (.bin .add (.t 67) (.t 69)), []⟩,
    ⟨(some 71), none, .q (.nc (.t 64)), []⟩,
    ⟨(some 72), none, .q (.fa 1 (.t 71)), []⟩,
    ⟨none, none, .e (.store 1 (.t 72) (.t 70)), []⟩]
def c106_20 : ACode := .ops [
    ⟨(some 73), none, .q (.mv (.t 3)), []⟩,
    ⟨(some 2), none, .q (.mv (.t 73)), []⟩]
def c106_21 : ACode := .seq c106_20 .ret
def c106_22 : ACode := .seq c106_19 c106_21
def c106_23 : ACode := .cond (.t 63) c106_22 .skip
def c106_24 : ACode := .seq c106_18 c106_23
def c106_25 : ACode := .seq c106_17 c106_24
def c106_26 : ACode := .seq c106_16 c106_25
def c106_27 : ACode := .seq c106_11 c106_26
def c106_28 : ACode := .seq c106_10 c106_27
def c106_29 : ACode := .block 1 c106_28
def c106_30 : ACode := .ops [
    ⟨(some 11), none, .q (.mv (.t 4)), []⟩,
    ⟨(some 12), none, .q (.bin .add (.t 11) (.v (.int .i64 1))), []⟩,
    ⟨(some 4), none, .q (.mv (.t 12)), []⟩]
def c106_31 : ACode := .seq c106_29 c106_30
def c106_32 : ACode := .seq c106_5 c106_31
def c106_33 : ACode := .loop c106_32
def c106_34 : ACode := .block 0 c106_33
def c106_35 : ACode := .seq c106_2 c106_34
def c106_36 : ACode := .ops [
    ⟨(some 2), none, .q (.mv (.v (.int .u64 0))), []⟩]
def c106_37 : ACode := .seq c106_36 .ret
def c106_38 : ACode := .seq c106_35 c106_37
def c106_39 : ACode := .seq c106_1 c106_38
def c106_40 : ACode := .seq c106_0 c106_39
@[go_sem] theorem c106_0_wp : type_of% (wp_of c106_0.eq_1) := wp_of c106_0.eq_1
@[go_sem] theorem c106_1_wp : type_of% (wp_of c106_1.eq_1) := wp_of c106_1.eq_1
@[go_sem] theorem c106_2_wp : type_of% (wp_of c106_2.eq_1) := wp_of c106_2.eq_1
@[go_sem] theorem c106_3_wp : type_of% (wp_of c106_3.eq_1) := wp_of c106_3.eq_1
@[go_sem] theorem c106_4_wp : type_of% (wp_of c106_4.eq_1) := wp_of c106_4.eq_1
@[go_sem] theorem c106_5_wp : type_of% (wp_of c106_5.eq_1) := wp_of c106_5.eq_1
@[go_sem] theorem c106_6_wp : type_of% (wp_of c106_6.eq_1) := wp_of c106_6.eq_1
@[go_sem] theorem c106_7_wp : type_of% (wp_of c106_7.eq_1) := wp_of c106_7.eq_1
@[go_sem] theorem c106_8_wp : type_of% (wp_of c106_8.eq_1) := wp_of c106_8.eq_1
@[go_sem] theorem c106_9_wp : type_of% (wp_of c106_9.eq_1) := wp_of c106_9.eq_1
@[go_sem] theorem c106_10_wp : type_of% (wp_of c106_10.eq_1) := wp_of c106_10.eq_1
@[go_sem] theorem c106_11_wp : type_of% (wp_of c106_11.eq_1) := wp_of c106_11.eq_1
@[go_sem] theorem c106_12_wp : type_of% (wp_of c106_12.eq_1) := wp_of c106_12.eq_1
@[go_sem] theorem c106_13_wp : type_of% (wp_of c106_13.eq_1) := wp_of c106_13.eq_1
@[go_sem] theorem c106_14_wp : type_of% (wp_of c106_14.eq_1) := wp_of c106_14.eq_1
@[go_sem] theorem c106_15_wp : type_of% (wp_of c106_15.eq_1) := wp_of c106_15.eq_1
@[go_sem] theorem c106_16_wp : type_of% (wp_of c106_16.eq_1) := wp_of c106_16.eq_1
@[go_sem] theorem c106_17_wp : type_of% (wp_of c106_17.eq_1) := wp_of c106_17.eq_1
@[go_sem] theorem c106_18_wp : type_of% (wp_of c106_18.eq_1) := wp_of c106_18.eq_1
@[go_sem] theorem c106_19_wp : type_of% (wp_of c106_19.eq_1) := wp_of c106_19.eq_1
@[go_sem] theorem c106_20_wp : type_of% (wp_of c106_20.eq_1) := wp_of c106_20.eq_1
@[go_sem] theorem c106_21_wp : type_of% (wp_of c106_21.eq_1) := wp_of c106_21.eq_1
@[go_sem] theorem c106_22_wp : type_of% (wp_of c106_22.eq_1) := wp_of c106_22.eq_1
@[go_sem] theorem c106_23_wp : type_of% (wp_of c106_23.eq_1) := wp_of c106_23.eq_1
@[go_sem] theorem c106_24_wp : type_of% (wp_of c106_24.eq_1) := wp_of c106_24.eq_1
@[go_sem] theorem c106_25_wp : type_of% (wp_of c106_25.eq_1) := wp_of c106_25.eq_1
@[go_sem] theorem c106_26_wp : type_of% (wp_of c106_26.eq_1) := wp_of c106_26.eq_1
@[go_sem] theorem c106_27_wp : type_of% (wp_of c106_27.eq_1) := wp_of c106_27.eq_1
@[go_sem] theorem c106_28_wp : type_of% (wp_of c106_28.eq_1) := wp_of c106_28.eq_1
@[go_sem] theorem c106_29_wp : type_of% (wp_of c106_29.eq_1) := wp_of c106_29.eq_1
@[go_sem] theorem c106_30_wp : type_of% (wp_of c106_30.eq_1) := wp_of c106_30.eq_1
@[go_sem] theorem c106_31_wp : type_of% (wp_of c106_31.eq_1) := wp_of c106_31.eq_1
@[go_sem] theorem c106_32_wp : type_of% (wp_of c106_32.eq_1) := wp_of c106_32.eq_1
@[go_sem] theorem c106_33_wp : type_of% (wp_of c106_33.eq_1) := wp_of c106_33.eq_1
@[go_sem] theorem c106_34_wp : type_of% (wp_of c106_34.eq_1) := wp_of c106_34.eq_1
@[go_sem] theorem c106_35_wp : type_of% (wp_of c106_35.eq_1) := wp_of c106_35.eq_1
@[go_sem] theorem c106_36_wp : type_of% (wp_of c106_36.eq_1) := wp_of c106_36.eq_1
@[go_sem] theorem c106_37_wp : type_of% (wp_of c106_37.eq_1) := wp_of c106_37.eq_1
@[go_sem] theorem c106_38_wp : type_of% (wp_of c106_38.eq_1) := wp_of c106_38.eq_1
@[go_sem] theorem c106_39_wp : type_of% (wp_of c106_39.eq_1) := wp_of c106_39.eq_1
@[go_sem] theorem c106_40_wp : type_of% (wp_of c106_40.eq_1) := wp_of c106_40.eq_1
def c106 : AFn := ⟨74, [.t 2], c106_40⟩
set_option maxRecDepth 100000 in
theorem c106_ok : compF Tryz.prog Tryz.f106 = some c106 := by kernel_rfl
theorem a106 {args : List AV} {σ : ASt} {R : AV → ASt → Prop} (hl : args.length ≤ 74) (h : c106_40.wp Tryz.prog (RetQ [.t 2] R) (init args) σ) : ACalls Tryz.prog 106 args σ R := acalls_of Tryz.func106 c106_ok hl h

/-! 109: (*tabular/vint.Reader).Err -/
def c109_0 : ACode := .ops [
    ⟨(some 2), none, .q (.mv (.v (.int .i64 0))), []⟩]
def c109_1 : ACode := .ops [
    ⟨(some 3), none, .q (.mv (.t 0)), []⟩,
    ⟨(some 4), none, .q (.nc (.t 3)), []⟩,
    ⟨(some 5), none, .q (.fa 2 (.t 4)), []⟩,
    ⟨(some 6), none, .q (.ld none (.t 5)), []⟩,
    ⟨(some 2), none, .q (.mv (.t 6)), []⟩]
def c109_2 : ACode := .seq c109_1 .ret
def c109_3 : ACode := .seq c109_0 c109_2
@[go_sem] theorem c109_0_wp : type_of% (wp_of c109_0.eq_1) := wp_of c109_0.eq_1
@[go_sem] theorem c109_1_wp : type_of% (wp_of c109_1.eq_1) := wp_of c109_1.eq_1
@[go_sem] theorem c109_2_wp : type_of% (wp_of c109_2.eq_1) := wp_of c109_2.eq_1
@[go_sem] theorem c109_3_wp : type_of% (wp_of c109_3.eq_1) := wp_of c109_3.eq_1
def c109 : AFn := ⟨7, [.t 2], c109_3⟩
set_option maxRecDepth 100000 in
theorem c109_ok : compF Tryz.prog Tryz.f109 = some c109 := by kernel_rfl
theorem a109 {args : List AV} {σ : ASt} {R : AV → ASt → Prop} (hl : args.length ≤ 7) (h : c109_3.wp Tryz.prog (RetQ [.t 2] R) (init args) σ) : ACalls Tryz.prog 109 args σ R := acalls_of Tryz.func109 c109_ok hl h

/-! 112: (*tabular/vint.Reader).fail -/
def c112_0 : ACode := .ops [
    ⟨(some 4), none, .q (.mv (.t 0)), []⟩,
    ⟨(some 5), none, .q (.nc (.t 4)), []⟩,
    ⟨(some 6), none, .q (.fa 2 (.t 5)), []⟩,
    ⟨(some 7), none, .q (.ld none (.t 6)), []⟩,
    ⟨(some 8), none, .q (.bin .eql (.t 7) (.v (.int .i64 0))), []⟩]
def c112_1 : ACode := .ops [
    ⟨(some 9), none, .q (.mv (.t 0)), []⟩,
    ⟨(some 10), none, .q (.mv (.t 1)), []⟩,
    ⟨(some 11), none, .q (.nc (.t 9)), []⟩,
    ⟨(some 12), none, .q (.fa 2 (.t 11)), []⟩,
    ⟨none, none, .e (.store 1 (.t 12) (.t 10)), []⟩]
def c112_2 : ACode := .cond (.t 8) c112_1 .skip
def c112_3 : ACode := .seq c112_0 c112_2
@[go_sem] theorem c112_0_wp : type_of% (wp_of c112_0.eq_1) := wp_of c112_0.eq_1
@[go_sem] theorem c112_1_wp : type_of% (wp_of c112_1.eq_1) := wp_of c112_1.eq_1
@[go_sem] theorem c112_2_wp : type_of% (wp_of c112_2.eq_1) := wp_of c112_2.eq_1
@[go_sem] theorem c112_3_wp : type_of% (wp_of c112_3.eq_1) := wp_of c112_3.eq_1
def c112 : AFn := ⟨13, [], c112_3⟩
set_option maxRecDepth 100000 in
theorem c112_ok : compF Tryz.prog Tryz.f112 = some c112 := by kernel_rfl
theorem a112 {args : List AV} {σ : ASt} {R : AV → ASt → Prop} (hl : args.length ≤ 13) (h : c112_3.wp Tryz.prog (RetQ [] R) (init args) σ) : ACalls Tryz.prog 112 args σ R := acalls_of Tryz.func112 c112_ok hl h

end Go.A
