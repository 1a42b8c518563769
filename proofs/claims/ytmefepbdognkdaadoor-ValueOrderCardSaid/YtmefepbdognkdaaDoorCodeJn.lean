/- The functions, compiled: by program (wip/gencode.py). -/
import Derived.Test.YtmefepbdognkdaaDoorBk
import Derived.Test.YtmefepbdognkdaaDoorProg
import Derived.KernelRfl
namespace Go.A
open Go.Proofs

/-! 22: tabular/tabularlaw15.Made -/
def c22_0 : ACode := .ops [
    ⟨(some 1), none, .e (.box (.t 0)), []⟩,
    ⟨(some 2), none, .q (.mv (.v .nili)), []⟩,
    ⟨(some 3), none, .e (.alloc [(.int .i64 0), (.int .i64 0), (.str [])]), []⟩]
def c22_1 : ACode := .ops [
    ⟨(some 4), none, .q (.ld (some 3) (.t 1)), []⟩,
    ⟨(some 6), none, .q (.fa 0 (.t 1)), []⟩,
    ⟨(some 7), none, .q (.ld none (.t 6)), []⟩,
    ⟨(some 8), none, .q (.fa 1 (.t 1)), []⟩,
    ⟨(some 9), none, .q (.ld none (.t 8)), []⟩,
    ⟨(some 10), none, .q (.fa 2 (.t 1)), []⟩,
    ⟨(some 11), none, .q (.ld none (.t 10)), []⟩,
    ⟨(some 12), none, .q (.build [(.int .i64 0), (.int .i64 0), (.str [])] [(0, 1, (.t 7)), (1, 1, (.t 9)), (2, 1, (.t 11))]), []⟩,
    ⟨(some 5), none, .e (.call 28 [(.t 4)]), [⟨none, .ld none (.t 6), 7⟩, ⟨none, .ld none (.t 8), 9⟩, ⟨none, .ld none (.t 10), 11⟩]⟩,
    ⟨(some 13), none, .e (.call 50 [(.t 12)]), []⟩,
    ⟨(some 2), none, .q (.mv (.t 5)), []⟩,
    ⟨none, none, .e (.store 3 (.t 3) (.t 13)), []⟩]
def c22_2 : ACode := .seq c22_1 .ret
def c22_3 : ACode := .seq c22_0 c22_2
@[go_sem] theorem c22_0_wp : type_of% (wp_of c22_0.eq_1) := wp_of c22_0.eq_1
@[go_sem] theorem c22_1_wp : type_of% (wp_of c22_1.eq_1) := wp_of c22_1.eq_1
@[go_sem] theorem c22_2_wp : type_of% (wp_of c22_2.eq_1) := wp_of c22_2.eq_1
@[go_sem] theorem c22_3_wp : type_of% (wp_of c22_3.eq_1) := wp_of c22_3.eq_1
def c22 : AFn := ⟨14, [.t 2, .c 3 (some 3)], c22_3⟩
set_option maxRecDepth 100000 in
theorem c22_ok : compF Tryd.prog Tryd.f22 = some c22 := by kernel_rfl
theorem a22 {args : List AV} {σ : ASt} {R : AV → ASt → Prop} (hl : args.length ≤ 14) (h : c22_3.wp Tryd.prog (RetQ [.t 2, .c 3 (some 3)] R) (init args) σ) : ACalls Tryd.prog 22 args σ R := acalls_of Tryd.func22 c22_ok hl h

/-! 50: tabular/tabularref15.Of -/
def c50_0 : ACode := .ops [
    ⟨(some 1), none, .e (.box (.t 0)), []⟩,
    ⟨(some 2), none, .e (.alloc [(.int .i64 0), (.int .i64 0), (.str [])]), []⟩]
def c50_1 : ACode := .ops [
    ⟨(some 5), none, .q (.fa 0 (.t 1)), []⟩,
    ⟨(some 6), none, .q (.ld none (.t 5)), []⟩]
def c50_2 : ACode := .ops [
    ⟨(some 8), none, .q (.bin .eql (.t 6) (.v (.int .i64 1))), []⟩,
    ⟨(some 7), none, .q (.mv (.t 8)), []⟩]
def c50_3 : ACode := .ops [
    ⟨(some 9), none, .q (.fa 1 (.t 1)), []⟩,
    ⟨(some 10), none, .q (.ld none (.t 9)), []⟩,
    ⟨(some 11), none, .q (.bin .leq (.t 10) (.v (.int .i64 999999999999999999))), []⟩,
    ⟨(some 12), none, .q (.mv (.t 11)), []⟩,
    ⟨(some 13), (some (12, true)), .q (.fa 1 (.t 1)), []⟩,
    ⟨(some 14), (some (12, true)), .q (.ld none (.t 13)), []⟩,
    ⟨(some 15), (some (12, true)), .q (.bin .geq (.t 14) (.v (.int .i64 (-999999999999999999)))), []⟩,
    ⟨(some 16), none, .q (.pick (.t 12) (.t 15) (.v (.bool false))), []⟩]
def c50_4 : ACode := .ops [
    ⟨(some 17), none, .q (.fa 1 (.t 1)), []⟩,
    ⟨(some 18), none, .q (.ld none (.t 17)), []⟩,
    ⟨(some 19), none, .e (.call 76 [(.t 18)]), []⟩,
    ⟨none, none, .e (.store 3 (.t 2) (.t 19)), []⟩]
def c50_5 : ACode := .seq c50_4 .ret
def c50_6 : ACode := .cond (.t 16) c50_5 .skip
def c50_7 : ACode := .seq c50_3 c50_6
def c50_8 : ACode := .ops [
    ⟨(some 21), none, .q (.bin .eql (.t 6) (.v (.int .i64 2))), []⟩,
    ⟨(some 20), none, .q (.mv (.t 21)), []⟩]
def c50_9 : ACode := .ops [
    ⟨(some 23), none, .q (.fa 2 (.t 1)), []⟩,
    ⟨(some 24), none, .q (.ld none (.t 23)), []⟩,
    ⟨(some 25), none, .e (.call 77 [(.t 24)]), []⟩,
    ⟨(some 22), none, .q (.mv (.t 25)), []⟩,
    ⟨(some 26), none, .q (.ext 0 (.t 22)), []⟩,
    ⟨(some 27), none, .q (.ext 1 (.t 22)), []⟩,
    ⟨(some 3), none, .q (.mv (.t 26)), []⟩,
    ⟨(some 4), none, .q (.mv (.t 27)), []⟩]
def c50_10 : ACode := .ops [
    ⟨(some 28), none, .q (.mv (.t 4)), []⟩,
    ⟨(some 29), none, .q (.mv (.t 28)), []⟩,
    ⟨(some 30), (some (29, true)), .q (.fa 2 (.t 1)), []⟩,
    ⟨(some 31), (some (29, true)), .q (.ld none (.t 30)), []⟩,
    ⟨(some 32), (some (29, true)), .q (.lenS (.t 31)), []⟩,
    ⟨(some 33), (some (29, true)), .q (.bin .leq (.t 32) (.v (.int .i64 2000))), []⟩,
    ⟨(some 34), none, .q (.pick (.t 29) (.t 33) (.v (.bool false))), []⟩]
def c50_11 : ACode := .ops [
    ⟨(some 35), none, .q (.fa 2 (.t 1)), []⟩,
    ⟨(some 36), none, .q (.ld none (.t 35)), []⟩,
    ⟨(some 37), none, .e (.call 78 [(.t 36)]), []⟩,
    ⟨none, none, .e (.store 3 (.t 2) (.t 37)), []⟩]
def c50_12 : ACode := .seq c50_11 .ret
def c50_13 : ACode := .cond (.t 34) c50_12 .skip
def c50_14 : ACode := .seq c50_10 c50_13
def c50_15 : ACode := .seq c50_9 c50_14
def c50_16 : ACode := .ops [
    ⟨(some 39), none, .q (.bin .eql (.t 6) (.v (.int .i64 3))), []⟩,
    ⟨(some 38), none, .q (.mv (.t 39)), []⟩]
def c50_17 : ACode := .ops [
    ⟨(some 40), none, .q (.fa 1 (.t 1)), []⟩,
    ⟨(some 41), none, .q (.ld none (.t 40)), []⟩,
    ⟨(some 42), none, .q (.bin .eql (.t 41) (.v (.int .i64 1))), []⟩,
    ⟨(some 43), none, .e (.call 79 [(.t 42)]), []⟩,
    ⟨none, none, .e (.store 3 (.t 2) (.t 43)), []⟩]
def c50_18 : ACode := .seq c50_17 .ret
def c50_19 : ACode := .ops [
    ⟨(some 45), none, .q (.bin .eql (.t 6) (.v (.int .i64 4))), []⟩,
    ⟨(some 44), none, .q (.mv (.t 45)), []⟩]
def c50_20 : ACode := .ops [
    ⟨(some 46), none, .q (.fa 1 (.t 1)), []⟩,
    ⟨(some 47), none, .q (.ld none (.t 46)), []⟩,
    ⟨(some 48), none, .q (.bin .geq (.t 47) (.v (.int .i64 1))), []⟩,
    ⟨(some 49), none, .q (.mv (.t 48)), []⟩,
    ⟨(some 50), (some (49, true)), .q (.fa 1 (.t 1)), []⟩,
    ⟨(some 51), (some (49, true)), .q (.ld none (.t 50)), []⟩,
    ⟨(some 52), (some (49, true)), .q (.bin .leq (.t 51) (.v (.int .i64 7))), []⟩,
    ⟨(some 53), none, .q (.pick (.t 49) (.t 52) (.v (.bool false))), []⟩]
def c50_21 : ACode := .ops [
    ⟨(some 54), none, .q (.fa 1 (.t 1)), []⟩,
    ⟨(some 55), none, .q (.ld none (.t 54)), []⟩,
    ⟨(some 56), none, .e (.call 80 [(.t 55)]), []⟩,
    ⟨none, none, .e (.store 3 (.t 2) (.t 56)), []⟩]
def c50_22 : ACode := .seq c50_21 .ret
def c50_23 : ACode := .cond (.t 53) c50_22 .skip
def c50_24 : ACode := .seq c50_20 c50_23
def c50_25 : ACode := .cond (.t 44) c50_24 .skip
def c50_26 : ACode := .seq c50_19 c50_25
def c50_27 : ACode := .cond (.t 38) c50_18 c50_26
def c50_28 : ACode := .seq c50_16 c50_27
def c50_29 : ACode := .cond (.t 20) c50_15 c50_28
def c50_30 : ACode := .seq c50_8 c50_29
def c50_31 : ACode := .cond (.t 7) c50_7 c50_30
def c50_32 : ACode := .seq c50_2 c50_31
def c50_33 : ACode := .block 0 c50_32
def c50_34 : ACode := .seq c50_1 c50_33
def c50_35 : ACode := .ops [
    ⟨(some 57), none, .q (.build [(.int .i64 0), (.int .i64 0), (.str [])] []), []⟩,
    ⟨none, none, .e (.store 3 (.t 2) (.t 57)), []⟩]
def c50_36 : ACode := .seq c50_35 .ret
def c50_37 : ACode := .seq c50_34 c50_36
def c50_38 : ACode := .seq c50_0 c50_37
@[go_sem] theorem c50_0_wp : type_of% (wp_of c50_0.eq_1) := wp_of c50_0.eq_1
@[go_sem] theorem c50_1_wp : type_of% (wp_of c50_1.eq_1) := wp_of c50_1.eq_1
@[go_sem] theorem c50_2_wp : type_of% (wp_of c50_2.eq_1) := wp_of c50_2.eq_1
@[go_sem] theorem c50_3_wp : type_of% (wp_of c50_3.eq_1) := wp_of c50_3.eq_1
@[go_sem] theorem c50_4_wp : type_of% (wp_of c50_4.eq_1) := wp_of c50_4.eq_1
@[go_sem] theorem c50_5_wp : type_of% (wp_of c50_5.eq_1) := wp_of c50_5.eq_1
@[go_sem] theorem c50_6_wp : type_of% (wp_of c50_6.eq_1) := wp_of c50_6.eq_1
@[go_sem] theorem c50_7_wp : type_of% (wp_of c50_7.eq_1) := wp_of c50_7.eq_1
@[go_sem] theorem c50_8_wp : type_of% (wp_of c50_8.eq_1) := wp_of c50_8.eq_1
@[go_sem] theorem c50_9_wp : type_of% (wp_of c50_9.eq_1) := wp_of c50_9.eq_1
@[go_sem] theorem c50_10_wp : type_of% (wp_of c50_10.eq_1) := wp_of c50_10.eq_1
@[go_sem] theorem c50_11_wp : type_of% (wp_of c50_11.eq_1) := wp_of c50_11.eq_1
@[go_sem] theorem c50_12_wp : type_of% (wp_of c50_12.eq_1) := wp_of c50_12.eq_1
@[go_sem] theorem c50_13_wp : type_of% (wp_of c50_13.eq_1) := wp_of c50_13.eq_1
@[go_sem] theorem c50_14_wp : type_of% (wp_of c50_14.eq_1) := wp_of c50_14.eq_1
@[go_sem] theorem c50_15_wp : type_of% (wp_of c50_15.eq_1) := wp_of c50_15.eq_1
@[go_sem] theorem c50_16_wp : type_of% (wp_of c50_16.eq_1) := wp_of c50_16.eq_1
@[go_sem] theorem c50_17_wp : type_of% (wp_of c50_17.eq_1) := wp_of c50_17.eq_1
@[go_sem] theorem c50_18_wp : type_of% (wp_of c50_18.eq_1) := wp_of c50_18.eq_1
@[go_sem] theorem c50_19_wp : type_of% (wp_of c50_19.eq_1) := wp_of c50_19.eq_1
@[go_sem] theorem c50_20_wp : type_of% (wp_of c50_20.eq_1) := wp_of c50_20.eq_1
@[go_sem] theorem c50_21_wp : type_of% (wp_of c50_21.eq_1) := wp_of c50_21.eq_1
@[go_sem] theorem c50_22_wp : type_of% (wp_of c50_22.eq_1) := wp_of c50_22.eq_1
@[go_sem] theorem c50_23_wp : type_of% (wp_of c50_23.eq_1) := wp_of c50_23.eq_1
@[go_sem] theorem c50_24_wp : type_of% (wp_of c50_24.eq_1) := wp_of c50_24.eq_1
@[go_sem] theorem c50_25_wp : type_of% (wp_of c50_25.eq_1) := wp_of c50_25.eq_1
@[go_sem] theorem c50_26_wp : type_of% (wp_of c50_26.eq_1) := wp_of c50_26.eq_1
@[go_sem] theorem c50_27_wp : type_of% (wp_of c50_27.eq_1) := wp_of c50_27.eq_1
@[go_sem] theorem c50_28_wp : type_of% (wp_of c50_28.eq_1) := wp_of c50_28.eq_1
@[go_sem] theorem c50_29_wp : type_of% (wp_of c50_29.eq_1) := wp_of c50_29.eq_1
@[go_sem] theorem c50_30_wp : type_of% (wp_of c50_30.eq_1) := wp_of c50_30.eq_1
@[go_sem] theorem c50_31_wp : type_of% (wp_of c50_31.eq_1) := wp_of c50_31.eq_1
@[go_sem] theorem c50_32_wp : type_of% (wp_of c50_32.eq_1) := wp_of c50_32.eq_1
@[go_sem] theorem c50_33_wp : type_of% (wp_of c50_33.eq_1) := wp_of c50_33.eq_1
@[go_sem] theorem c50_34_wp : type_of% (wp_of c50_34.eq_1) := wp_of c50_34.eq_1
@[go_sem] theorem c50_35_wp : type_of% (wp_of c50_35.eq_1) := wp_of c50_35.eq_1
@[go_sem] theorem c50_36_wp : type_of% (wp_of c50_36.eq_1) := wp_of c50_36.eq_1
@[go_sem] theorem c50_37_wp : type_of% (wp_of c50_37.eq_1) := wp_of c50_37.eq_1
@[go_sem] theorem c50_38_wp : type_of% (wp_of c50_38.eq_1) := wp_of c50_38.eq_1
def c50 : AFn := ⟨58, [.c 2 (some 3)], c50_38⟩
set_option maxRecDepth 100000 in
theorem c50_ok : compF Tryd.prog Tryd.f50 = some c50 := by kernel_rfl
theorem a50 {args : List AV} {σ : ASt} {R : AV → ASt → Prop} (hl : args.length ≤ 58) (h : c50_38.wp Tryd.prog (RetQ [.c 2 (some 3)] R) (init args) σ) : ACalls Tryd.prog 50 args σ R := acalls_of Tryd.func50 c50_ok hl h

/-! 77: tabular/tabularref11.Signs -/
def c77_0 : ACode := .ops [
    ⟨(some 2), none, .q (.mv (.v (.int .i64 0))), []⟩,
    ⟨(some 3), none, .q (.mv (.v (.bool false))), []⟩]
def c77_1 : ACode := .ops [
    ⟨(some 4), none, .q (.mv (.v (.int .i64 0))), []⟩]
def c77_2 : ACode := .ops [
    ⟨(some 5), none, .q (.mv (.v (.int .i64 0))), []⟩]
def c77_3 : ACode := .ops [
    ⟨(some 7), none, .q (.mv (.t 5)), []⟩,
    ⟨(some 8), none, .q (.mv (.t 0)), []⟩,
    ⟨(some 9), none, .q (.lenS (.t 8)), []⟩,
    ⟨(some 10), none, .q (.bin .lss (.t 7) (.t 9)), []⟩]
def c77_4 : ACode := .cond (.t 10) .skip (.exit 0)
def c77_5 : ACode := .seq c77_3 c77_4
def c77_6 : ACode := .ops [
    ⟨(some 11), none, .q (.mv (.t 0)), []⟩,
    ⟨(some 12), none, .q (.mv (.t 5)), []⟩,
    ⟨(some 13), none, .e (.call 96 [(.t 11), (.t 12)]), []⟩,
    ⟨(some 6), none, .q (.mv (.t 13)), []⟩]
def c77_7 : ACode := .ops [
    ⟨(some 14), none, .q (.mv (.t 6)), []⟩,
    ⟨(some 15), none, .q (.bin .eql (.t 14) (.v (.int .i64 0))), []⟩]
def c77_8 : ACode := .ops [
    ⟨(some 2), none, .q (.mv (.v (.int .i64 0))), []⟩,
    ⟨(some 3), none, .q (.mv (.v (.bool false))), []⟩]
def c77_9 : ACode := .seq c77_8 .ret
def c77_10 : ACode := .cond (.t 15) c77_9 .skip
def c77_11 : ACode := .seq c77_7 c77_10
def c77_12 : ACode := .ops [
    ⟨(some 16), none, .q (.mv (.t 5)), []⟩,
    ⟨(some 17), none, .q (.mv (.t 6)), []⟩,
    ⟨(some 18), none, .q (.bin .add (.t 16) (.t 17)), []⟩,
    ⟨(some 5), none, .q (.mv (.t 18)), []⟩]
def c77_13 : ACode := .ops [
    ⟨(some 19), none, .q (.mv (.t 4)), []⟩,
    ⟨(some 20), none, .q (.bin .add (.t 19) (.v (.int .i64 1))), []⟩,
    ⟨(some 4), none, .q (.mv (.t 20)), []⟩]
def c77_14 : ACode := .seq c77_12 c77_13
def c77_15 : ACode := .seq c77_11 c77_14
def c77_16 : ACode := .seq c77_6 c77_15
def c77_17 : ACode := .block 1 c77_16
def c77_18 : ACode := .seq c77_5 c77_17
def c77_19 : ACode := .loop c77_18
def c77_20 : ACode := .block 0 c77_19
def c77_21 : ACode := .seq c77_2 c77_20
def c77_22 : ACode := .ops [
    ⟨(some 21), none, .q (.mv (.t 4)), []⟩,
    ⟨(some 2), none, .q (.mv (.t 21)), []⟩,
    ⟨(some 3), none, .q (.mv (.v (.bool true))), []⟩]
def c77_23 : ACode := .seq c77_22 .ret
def c77_24 : ACode := .seq c77_21 c77_23
def c77_25 : ACode := .seq c77_1 c77_24
def c77_26 : ACode := .seq c77_0 c77_25
@[go_sem] theorem c77_0_wp : type_of% (wp_of c77_0.eq_1) := wp_of c77_0.eq_1
@[go_sem] theorem c77_1_wp : type_of% (wp_of c77_1.eq_1) := wp_of c77_1.eq_1
@[go_sem] theorem c77_2_wp : type_of% (wp_of c77_2.eq_1) := wp_of c77_2.eq_1
@[go_sem] theorem c77_3_wp : type_of% (wp_of c77_3.eq_1) := wp_of c77_3.eq_1
@[go_sem] theorem c77_4_wp : type_of% (wp_of c77_4.eq_1) := wp_of c77_4.eq_1
@[go_sem] theorem c77_5_wp : type_of% (wp_of c77_5.eq_1) := wp_of c77_5.eq_1
@[go_sem] theorem c77_6_wp : type_of% (wp_of c77_6.eq_1) := wp_of c77_6.eq_1
@[go_sem] theorem c77_7_wp : type_of% (wp_of c77_7.eq_1) := wp_of c77_7.eq_1
@[go_sem] theorem c77_8_wp : type_of% (wp_of c77_8.eq_1) := wp_of c77_8.eq_1
@[go_sem] theorem c77_9_wp : type_of% (wp_of c77_9.eq_1) := wp_of c77_9.eq_1
@[go_sem] theorem c77_10_wp : type_of% (wp_of c77_10.eq_1) := wp_of c77_10.eq_1
@[go_sem] theorem c77_11_wp : type_of% (wp_of c77_11.eq_1) := wp_of c77_11.eq_1
@[go_sem] theorem c77_12_wp : type_of% (wp_of c77_12.eq_1) := wp_of c77_12.eq_1
@[go_sem] theorem c77_13_wp : type_of% (wp_of c77_13.eq_1) := wp_of c77_13.eq_1
@[go_sem] theorem c77_14_wp : type_of% (wp_of c77_14.eq_1) := wp_of c77_14.eq_1
@[go_sem] theorem c77_15_wp : type_of% (wp_of c77_15.eq_1) := wp_of c77_15.eq_1
@[go_sem] theorem c77_16_wp : type_of% (wp_of c77_16.eq_1) := wp_of c77_16.eq_1
@[go_sem] theorem c77_17_wp : type_of% (wp_of c77_17.eq_1) := wp_of c77_17.eq_1
@[go_sem] theorem c77_18_wp : type_of% (wp_of c77_18.eq_1) := wp_of c77_18.eq_1
@[go_sem] theorem c77_19_wp : type_of% (wp_of c77_19.eq_1) := wp_of c77_19.eq_1
@[go_sem] theorem c77_20_wp : type_of% (wp_of c77_20.eq_1) := wp_of c77_20.eq_1
@[go_sem] theorem c77_21_wp : type_of% (wp_of c77_21.eq_1) := wp_of c77_21.eq_1
@[go_sem] theorem c77_22_wp : type_of% (wp_of c77_22.eq_1) := wp_of c77_22.eq_1
@[go_sem] theorem c77_23_wp : type_of% (wp_of c77_23.eq_1) := wp_of c77_23.eq_1
@[go_sem] theorem c77_24_wp : type_of% (wp_of c77_24.eq_1) := wp_of c77_24.eq_1
@[go_sem] theorem c77_25_wp : type_of% (wp_of c77_25.eq_1) := wp_of c77_25.eq_1
@[go_sem] theorem c77_26_wp : type_of% (wp_of c77_26.eq_1) := wp_of c77_26.eq_1
def c77 : AFn := ⟨22, [.t 2, .t 3], c77_26⟩
set_option maxRecDepth 100000 in
theorem c77_ok : compF Tryd.prog Tryd.f77 = some c77 := by kernel_rfl
theorem a77 {args : List AV} {σ : ASt} {R : AV → ASt → Prop} (hl : args.length ≤ 22) (h : c77_26.wp Tryd.prog (RetQ [.t 2, .t 3] R) (init args) σ) : ACalls Tryd.prog 77 args σ R := acalls_of Tryd.func77 c77_ok hl h

end Go.A
