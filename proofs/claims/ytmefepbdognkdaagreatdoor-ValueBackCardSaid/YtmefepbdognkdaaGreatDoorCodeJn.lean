/- The functions, compiled: by program (wip/gencode.py). -/
import Derived.Test.YtmefepbdognkdaaGreatDoorBk
import Derived.Test.YtmefepbdognkdaaGreatDoorProg
import Derived.KernelRfl
namespace Go.A
open Go.Proofs

/-! 17: tabular/tabularlaw15.Made -/
def c17_0 : ACode := .ops [
    ⟨(some 1), none, .e (.box (.t 0)), []⟩,
    ⟨(some 2), none, .q (.mv (.v .nili)), []⟩,
    ⟨(some 3), none, .e (.alloc [(.int .i64 0), (.int .i64 0), (.str [])]), []⟩]
def c17_1 : ACode := .ops [
    ⟨(some 4), none, .q (.ld (some 3) (.t 1)), []⟩,
    ⟨(some 6), none, .q (.fa 0 (.t 1)), []⟩,
    ⟨(some 7), none, .q (.ld none (.t 6)), []⟩,
    ⟨(some 8), none, .q (.fa 1 (.t 1)), []⟩,
    ⟨(some 9), none, .q (.ld none (.t 8)), []⟩,
    ⟨(some 10), none, .q (.fa 2 (.t 1)), []⟩,
    ⟨(some 11), none, .q (.ld none (.t 10)), []⟩,
    ⟨(some 12), none, .q (.build [(.int .i64 0), (.int .i64 0), (.str [])] [(0, 1, (.t 7)), (1, 1, (.t 9)), (2, 1, (.t 11))]), []⟩,
    ⟨(some 5), none, .e (.call 60 [(.t 4)]), [⟨none, .ld none (.t 6), 7⟩, ⟨none, .ld none (.t 8), 9⟩, ⟨none, .ld none (.t 10), 11⟩]⟩,
    ⟨(some 13), none, .e (.call 80 [(.t 12)]), []⟩,
    ⟨(some 2), none, .q (.mv (.t 5)), []⟩,
    ⟨none, none, .e (.store 3 (.t 3) (.t 13)), []⟩]
def c17_2 : ACode := .seq c17_1 .ret
def c17_3 : ACode := .seq c17_0 c17_2
@[go_sem] theorem c17_0_wp : type_of% (wp_of c17_0.eq_1) := wp_of c17_0.eq_1
@[go_sem] theorem c17_1_wp : type_of% (wp_of c17_1.eq_1) := wp_of c17_1.eq_1
@[go_sem] theorem c17_2_wp : type_of% (wp_of c17_2.eq_1) := wp_of c17_2.eq_1
@[go_sem] theorem c17_3_wp : type_of% (wp_of c17_3.eq_1) := wp_of c17_3.eq_1
def c17 : AFn := ⟨14, [.t 2, .c 3 (some 3)], c17_3⟩
set_option maxRecDepth 100000 in
theorem c17_ok : compF Tryz.prog Tryz.f17 = some c17 := by kernel_rfl
theorem a17 {args : List AV} {σ : ASt} {R : AV → ASt → Prop} (hl : args.length ≤ 14) (h : c17_3.wp Tryz.prog (RetQ [.t 2, .c 3 (some 3)] R) (init args) σ) : ACalls Tryz.prog 17 args σ R := acalls_of Tryz.func17 c17_ok hl h

/-! 80: tabular/tabularref15.Of -/
def c80_0 : ACode := .ops [
    ⟨(some 1), none, .e (.box (.t 0)), []⟩,
    ⟨(some 2), none, .e (.alloc [(.int .i64 0), (.int .i64 0), (.str [])]), []⟩]
def c80_1 : ACode := .ops [
    ⟨(some 5), none, .q (.fa 0 (.t 1)), []⟩,
    ⟨(some 6), none, .q (.ld none (.t 5)), []⟩]
def c80_2 : ACode := .ops [
    ⟨(some 8), none, .q (.bin .eql (.t 6) (.v (.int .i64 1))), []⟩,
    ⟨(some 7), none, .q (.mv (.t 8)), []⟩]
def c80_3 : ACode := .ops [
    ⟨(some 9), none, .q (.fa 1 (.t 1)), []⟩,
    ⟨(some 10), none, .q (.ld none (.t 9)), []⟩,
    ⟨(some 11), none, .q (.bin .leq (.t 10) (.v (.int .i64 999999999999999999))), []⟩,
    ⟨(some 12), none, .q (.mv (.t 11)), []⟩,
    ⟨(some 13), (some (12, true)), .q (.fa 1 (.t 1)), []⟩,
    ⟨(some 14), (some (12, true)), .q (.ld none (.t 13)), []⟩,
    ⟨(some 15), (some (12, true)), .q (.bin .geq (.t 14) (.v (.int .i64 (-999999999999999999)))), []⟩,
    ⟨(some 16), none, .q (.pick (.t 12) (.t 15) (.v (.bool false))), []⟩]
def c80_4 : ACode := .ops [
    ⟨(some 17), none, .q (.fa 1 (.t 1)), []⟩,
    ⟨(some 18), none, .q (.ld none (.t 17)), []⟩,
    ⟨(some 19), none, .e (.call 63 [(.t 18)]), []⟩,
    ⟨none, none, .e (.store 3 (.t 2) (.t 19)), []⟩]
def c80_5 : ACode := .seq c80_4 .ret
def c80_6 : ACode := .cond (.t 16) c80_5 .skip
def c80_7 : ACode := .seq c80_3 c80_6
def c80_8 : ACode := .ops [
    ⟨(some 21), none, .q (.bin .eql (.t 6) (.v (.int .i64 2))), []⟩,
    ⟨(some 20), none, .q (.mv (.t 21)), []⟩]
def c80_9 : ACode := .ops [
    ⟨(some 23), none, .q (.fa 2 (.t 1)), []⟩,
    ⟨(some 24), none, .q (.ld none (.t 23)), []⟩,
    ⟨(some 25), none, .e (.call 137 [(.t 24)]), []⟩,
    ⟨(some 22), none, .q (.mv (.t 25)), []⟩,
    ⟨(some 26), none, .q (.ext 0 (.t 22)), []⟩,
    ⟨(some 27), none, .q (.ext 1 (.t 22)), []⟩,
    ⟨(some 3), none, .q (.mv (.t 26)), []⟩,
    ⟨(some 4), none, .q (.mv (.t 27)), []⟩]
def c80_10 : ACode := .ops [
    ⟨(some 28), none, .q (.mv (.t 4)), []⟩,
    ⟨(some 29), none, .q (.mv (.t 28)), []⟩,
    ⟨(some 30), (some (29, true)), .q (.fa 2 (.t 1)), []⟩,
    ⟨(some 31), (some (29, true)), .q (.ld none (.t 30)), []⟩,
    ⟨(some 32), (some (29, true)), .q (.lenS (.t 31)), []⟩,
    ⟨(some 33), (some (29, true)), .q (.bin .leq (.t 32) (.v (.int .i64 2000))), []⟩,
    ⟨(some 34), none, .q (.pick (.t 29) (.t 33) (.v (.bool false))), []⟩]
def c80_11 : ACode := .ops [
    ⟨(some 35), none, .q (.fa 2 (.t 1)), []⟩,
    ⟨(some 36), none, .q (.ld none (.t 35)), []⟩,
    ⟨(some 37), none, .e (.call 138 [(.t 36)]), []⟩,
    ⟨none, none, .e (.store 3 (.t 2) (.t 37)), []⟩]
def c80_12 : ACode := .seq c80_11 .ret
def c80_13 : ACode := .cond (.t 34) c80_12 .skip
def c80_14 : ACode := .seq c80_10 c80_13
def c80_15 : ACode := .seq c80_9 c80_14
def c80_16 : ACode := .ops [
    ⟨(some 39), none, .q (.bin .eql (.t 6) (.v (.int .i64 3))), []⟩,
    ⟨(some 38), none, .q (.mv (.t 39)), []⟩]
def c80_17 : ACode := .ops [
    ⟨(some 40), none, .q (.fa 1 (.t 1)), []⟩,
    ⟨(some 41), none, .q (.ld none (.t 40)), []⟩,
    ⟨(some 42), none, .q (.bin .eql (.t 41) (.v (.int .i64 1))), []⟩,
    ⟨(some 43), none, .e (.call 92 [(.t 42)]), []⟩,
    ⟨none, none, .e (.store 3 (.t 2) (.t 43)), []⟩]
def c80_18 : ACode := .seq c80_17 .ret
def c80_19 : ACode := .ops [
    ⟨(some 45), none, .q (.bin .eql (.t 6) (.v (.int .i64 4))), []⟩,
    ⟨(some 44), none, .q (.mv (.t 45)), []⟩]
def c80_20 : ACode := .ops [
    ⟨(some 46), none, .q (.fa 1 (.t 1)), []⟩,
    ⟨(some 47), none, .q (.ld none (.t 46)), []⟩,
    ⟨(some 48), none, .q (.bin .geq (.t 47) (.v (.int .i64 1))), []⟩,
    ⟨(some 49), none, .q (.mv (.t 48)), []⟩,
    ⟨(some 50), (some (49, true)), .q (.fa 1 (.t 1)), []⟩,
    ⟨(some 51), (some (49, true)), .q (.ld none (.t 50)), []⟩,
    ⟨(some 52), (some (49, true)), .q (.bin .leq (.t 51) (.v (.int .i64 7))), []⟩,
    ⟨(some 53), none, .q (.pick (.t 49) (.t 52) (.v (.bool false))), []⟩]
def c80_21 : ACode := .ops [
    ⟨(some 54), none, .q (.fa 1 (.t 1)), []⟩,
    ⟨(some 55), none, .q (.ld none (.t 54)), []⟩,
    ⟨(some 56), none, .e (.call 61 [(.t 55)]), []⟩,
    ⟨none, none, .e (.store 3 (.t 2) (.t 56)), []⟩]
def c80_22 : ACode := .seq c80_21 .ret
def c80_23 : ACode := .cond (.t 53) c80_22 .skip
def c80_24 : ACode := .seq c80_20 c80_23
def c80_25 : ACode := .cond (.t 44) c80_24 .skip
def c80_26 : ACode := .seq c80_19 c80_25
def c80_27 : ACode := .cond (.t 38) c80_18 c80_26
def c80_28 : ACode := .seq c80_16 c80_27
def c80_29 : ACode := .cond (.t 20) c80_15 c80_28
def c80_30 : ACode := .seq c80_8 c80_29
def c80_31 : ACode := .cond (.t 7) c80_7 c80_30
def c80_32 : ACode := .seq c80_2 c80_31
def c80_33 : ACode := .block 0 c80_32
def c80_34 : ACode := .seq c80_1 c80_33
def c80_35 : ACode := .ops [
    ⟨(some 57), none, .q (.build [(.int .i64 0), (.int .i64 0), (.str [])] []), []⟩,
    ⟨none, none, .e (.store 3 (.t 2) (.t 57)), []⟩]
def c80_36 : ACode := .seq c80_35 .ret
def c80_37 : ACode := .seq c80_34 c80_36
def c80_38 : ACode := .seq c80_0 c80_37
@[go_sem] theorem c80_0_wp : type_of% (wp_of c80_0.eq_1) := wp_of c80_0.eq_1
@[go_sem] theorem c80_1_wp : type_of% (wp_of c80_1.eq_1) := wp_of c80_1.eq_1
@[go_sem] theorem c80_2_wp : type_of% (wp_of c80_2.eq_1) := wp_of c80_2.eq_1
@[go_sem] theorem c80_3_wp : type_of% (wp_of c80_3.eq_1) := wp_of c80_3.eq_1
@[go_sem] theorem c80_4_wp : type_of% (wp_of c80_4.eq_1) := wp_of c80_4.eq_1
@[go_sem] theorem c80_5_wp : type_of% (wp_of c80_5.eq_1) := wp_of c80_5.eq_1
@[go_sem] theorem c80_6_wp : type_of% (wp_of c80_6.eq_1) := wp_of c80_6.eq_1
@[go_sem] theorem c80_7_wp : type_of% (wp_of c80_7.eq_1) := wp_of c80_7.eq_1
@[go_sem] theorem c80_8_wp : type_of% (wp_of c80_8.eq_1) := wp_of c80_8.eq_1
@[go_sem] theorem c80_9_wp : type_of% (wp_of c80_9.eq_1) := wp_of c80_9.eq_1
@[go_sem] theorem c80_10_wp : type_of% (wp_of c80_10.eq_1) := wp_of c80_10.eq_1
@[go_sem] theorem c80_11_wp : type_of% (wp_of c80_11.eq_1) := wp_of c80_11.eq_1
@[go_sem] theorem c80_12_wp : type_of% (wp_of c80_12.eq_1) := wp_of c80_12.eq_1
@[go_sem] theorem c80_13_wp : type_of% (wp_of c80_13.eq_1) := wp_of c80_13.eq_1
@[go_sem] theorem c80_14_wp : type_of% (wp_of c80_14.eq_1) := wp_of c80_14.eq_1
@[go_sem] theorem c80_15_wp : type_of% (wp_of c80_15.eq_1) := wp_of c80_15.eq_1
@[go_sem] theorem c80_16_wp : type_of% (wp_of c80_16.eq_1) := wp_of c80_16.eq_1
@[go_sem] theorem c80_17_wp : type_of% (wp_of c80_17.eq_1) := wp_of c80_17.eq_1
@[go_sem] theorem c80_18_wp : type_of% (wp_of c80_18.eq_1) := wp_of c80_18.eq_1
@[go_sem] theorem c80_19_wp : type_of% (wp_of c80_19.eq_1) := wp_of c80_19.eq_1
@[go_sem] theorem c80_20_wp : type_of% (wp_of c80_20.eq_1) := wp_of c80_20.eq_1
@[go_sem] theorem c80_21_wp : type_of% (wp_of c80_21.eq_1) := wp_of c80_21.eq_1
@[go_sem] theorem c80_22_wp : type_of% (wp_of c80_22.eq_1) := wp_of c80_22.eq_1
@[go_sem] theorem c80_23_wp : type_of% (wp_of c80_23.eq_1) := wp_of c80_23.eq_1
@[go_sem] theorem c80_24_wp : type_of% (wp_of c80_24.eq_1) := wp_of c80_24.eq_1
@[go_sem] theorem c80_25_wp : type_of% (wp_of c80_25.eq_1) := wp_of c80_25.eq_1
@[go_sem] theorem c80_26_wp : type_of% (wp_of c80_26.eq_1) := wp_of c80_26.eq_1
@[go_sem] theorem c80_27_wp : type_of% (wp_of c80_27.eq_1) := wp_of c80_27.eq_1
@[go_sem] theorem c80_28_wp : type_of% (wp_of c80_28.eq_1) := wp_of c80_28.eq_1
@[go_sem] theorem c80_29_wp : type_of% (wp_of c80_29.eq_1) := wp_of c80_29.eq_1
@[go_sem] theorem c80_30_wp : type_of% (wp_of c80_30.eq_1) := wp_of c80_30.eq_1
@[go_sem] theorem c80_31_wp : type_of% (wp_of c80_31.eq_1) := wp_of c80_31.eq_1
@[go_sem] theorem c80_32_wp : type_of% (wp_of c80_32.eq_1) := wp_of c80_32.eq_1
@[go_sem] theorem c80_33_wp : type_of% (wp_of c80_33.eq_1) := wp_of c80_33.eq_1
@[go_sem] theorem c80_34_wp : type_of% (wp_of c80_34.eq_1) := wp_of c80_34.eq_1
@[go_sem] theorem c80_35_wp : type_of% (wp_of c80_35.eq_1) := wp_of c80_35.eq_1
@[go_sem] theorem c80_36_wp : type_of% (wp_of c80_36.eq_1) := wp_of c80_36.eq_1
@[go_sem] theorem c80_37_wp : type_of% (wp_of c80_37.eq_1) := wp_of c80_37.eq_1
@[go_sem] theorem c80_38_wp : type_of% (wp_of c80_38.eq_1) := wp_of c80_38.eq_1
def c80 : AFn := ⟨58, [.c 2 (some 3)], c80_38⟩
set_option maxRecDepth 100000 in
theorem c80_ok : compF Tryz.prog Tryz.f80 = some c80 := by kernel_rfl
theorem a80 {args : List AV} {σ : ASt} {R : AV → ASt → Prop} (hl : args.length ≤ 58) (h : c80_38.wp Tryz.prog (RetQ [.c 2 (some 3)] R) (init args) σ) : ACalls Tryz.prog 80 args σ R := acalls_of Tryz.func80 c80_ok hl h

/-! 137: tabular/tabularref11.Signs -/
def c137_0 : ACode := .ops [
    ⟨(some 2), none, .q (.mv (.v (.int .i64 0))), []⟩,
    ⟨(some 3), none, .q (.mv (.v (.bool false))), []⟩]
def c137_1 : ACode := .ops [
    ⟨(some 4), none, .q (.mv (.v (.int .i64 0))), []⟩]
def c137_2 : ACode := .ops [
    ⟨(some 5), none, .q (.mv (.v (.int .i64 0))), []⟩]
def c137_3 : ACode := .ops [
    ⟨(some 7), none, .q (.mv (.t 5)), []⟩,
    ⟨(some 8), none, .q (.mv (.t 0)), []⟩,
    ⟨(some 9), none, .q (.lenS (.t 8)), []⟩,
    ⟨(some 10), none, .q (.bin .lss (.t 7) (.t 9)), []⟩]
def c137_4 : ACode := .cond (.t 10) .skip (.exit 0)
def c137_5 : ACode := .seq c137_3 c137_4
def c137_6 : ACode := .ops [
    ⟨(some 11), none, .q (.mv (.t 0)), []⟩,
    ⟨(some 12), none, .q (.mv (.t 5)), []⟩,
    ⟨(some 13), none, .e (.call 150 [(.t 11), (.t 12)]), []⟩,
    ⟨(some 6), none, .q (.mv (.t 13)), []⟩]
def c137_7 : ACode := .ops [
    ⟨(some 14), none, .q (.mv (.t 6)), []⟩,
    ⟨(some 15), none, .q (.bin .eql (.t 14) (.v (.int .i64 0))), []⟩]
def c137_8 : ACode := .ops [
    ⟨(some 2), none, .q (.mv (.v (.int .i64 0))), []⟩,
    ⟨(some 3), none, .q (.mv (.v (.bool false))), []⟩]
def c137_9 : ACode := .seq c137_8 .ret
def c137_10 : ACode := .cond (.t 15) c137_9 .skip
def c137_11 : ACode := .seq c137_7 c137_10
def c137_12 : ACode := .ops [
    ⟨(some 16), none, .q (.mv (.t 5)), []⟩,
    ⟨(some 17), none, .q (.mv (.t 6)), []⟩,
    ⟨(some 18), none, .q (.bin .add (.t 16) (.t 17)), []⟩,
    ⟨(some 5), none, .q (.mv (.t 18)), []⟩]
def c137_13 : ACode := .ops [
    ⟨(some 19), none, .q (.mv (.t 4)), []⟩,
    ⟨(some 20), none, .q (.bin .add (.t 19) (.v (.int .i64 1))), []⟩,
    ⟨(some 4), none, .q (.mv (.t 20)), []⟩]
def c137_14 : ACode := .seq c137_12 c137_13
def c137_15 : ACode := .seq c137_11 c137_14
def c137_16 : ACode := .seq c137_6 c137_15
def c137_17 : ACode := .block 1 c137_16
def c137_18 : ACode := .seq c137_5 c137_17
def c137_19 : ACode := .loop c137_18
def c137_20 : ACode := .block 0 c137_19
def c137_21 : ACode := .seq c137_2 c137_20
def c137_22 : ACode := .ops [
    ⟨(some 21), none, .q (.mv (.t 4)), []⟩,
    ⟨(some 2), none, .q (.mv (.t 21)), []⟩,
    ⟨(some 3), none, .q (.mv (.v (.bool true))), []⟩]
def c137_23 : ACode := .seq c137_22 .ret
def c137_24 : ACode := .seq c137_21 c137_23
def c137_25 : ACode := .seq c137_1 c137_24
def c137_26 : ACode := .seq c137_0 c137_25
@[go_sem] theorem c137_0_wp : type_of% (wp_of c137_0.eq_1) := wp_of c137_0.eq_1
@[go_sem] theorem c137_1_wp : type_of% (wp_of c137_1.eq_1) := wp_of c137_1.eq_1
@[go_sem] theorem c137_2_wp : type_of% (wp_of c137_2.eq_1) := wp_of c137_2.eq_1
@[go_sem] theorem c137_3_wp : type_of% (wp_of c137_3.eq_1) := wp_of c137_3.eq_1
@[go_sem] theorem c137_4_wp : type_of% (wp_of c137_4.eq_1) := wp_of c137_4.eq_1
@[go_sem] theorem c137_5_wp : type_of% (wp_of c137_5.eq_1) := wp_of c137_5.eq_1
@[go_sem] theorem c137_6_wp : type_of% (wp_of c137_6.eq_1) := wp_of c137_6.eq_1
@[go_sem] theorem c137_7_wp : type_of% (wp_of c137_7.eq_1) := wp_of c137_7.eq_1
@[go_sem] theorem c137_8_wp : type_of% (wp_of c137_8.eq_1) := wp_of c137_8.eq_1
@[go_sem] theorem c137_9_wp : type_of% (wp_of c137_9.eq_1) := wp_of c137_9.eq_1
@[go_sem] theorem c137_10_wp : type_of% (wp_of c137_10.eq_1) := wp_of c137_10.eq_1
@[go_sem] theorem c137_11_wp : type_of% (wp_of c137_11.eq_1) := wp_of c137_11.eq_1
@[go_sem] theorem c137_12_wp : type_of% (wp_of c137_12.eq_1) := wp_of c137_12.eq_1
@[go_sem] theorem c137_13_wp : type_of% (wp_of c137_13.eq_1) := wp_of c137_13.eq_1
@[go_sem] theorem c137_14_wp : type_of% (wp_of c137_14.eq_1) := wp_of c137_14.eq_1
@[go_sem] theorem c137_15_wp : type_of% (wp_of c137_15.eq_1) := wp_of c137_15.eq_1
@[go_sem] theorem c137_16_wp : type_of% (wp_of c137_16.eq_1) := wp_of c137_16.eq_1
@[go_sem] theorem c137_17_wp : type_of% (wp_of c137_17.eq_1) := wp_of c137_17.eq_1
@[go_sem] theorem c137_18_wp : type_of% (wp_of c137_18.eq_1) := wp_of c137_18.eq_1
@[go_sem] theorem c137_19_wp : type_of% (wp_of c137_19.eq_1) := wp_of c137_19.eq_1
@[go_sem] theorem c137_20_wp : type_of% (wp_of c137_20.eq_1) := wp_of c137_20.eq_1
@[go_sem] theorem c137_21_wp : type_of% (wp_of c137_21.eq_1) := wp_of c137_21.eq_1
@[go_sem] theorem c137_22_wp : type_of% (wp_of c137_22.eq_1) := wp_of c137_22.eq_1
@[go_sem] theorem c137_23_wp : type_of% (wp_of c137_23.eq_1) := wp_of c137_23.eq_1
@[go_sem] theorem c137_24_wp : type_of% (wp_of c137_24.eq_1) := wp_of c137_24.eq_1
@[go_sem] theorem c137_25_wp : type_of% (wp_of c137_25.eq_1) := wp_of c137_25.eq_1
@[go_sem] theorem c137_26_wp : type_of% (wp_of c137_26.eq_1) := wp_of c137_26.eq_1
def c137 : AFn := ⟨22, [.t 2, .t 3], c137_26⟩
set_option maxRecDepth 100000 in
theorem c137_ok : compF Tryz.prog Tryz.f137 = some c137 := by kernel_rfl
theorem a137 {args : List AV} {σ : ASt} {R : AV → ASt → Prop} (hl : args.length ≤ 22) (h : c137_26.wp Tryz.prog (RetQ [.t 2, .t 3] R) (init args) σ) : ACalls Tryz.prog 137 args σ R := acalls_of Tryz.func137 c137_ok hl h

end Go.A
