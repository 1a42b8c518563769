/- The functions, compiled: by program (wip/gencode.py). -/
import Derived.Test.YtmefepbdognkdaaDoorBk
import Derived.Test.YtmefepbdognkdaaDoorProg
import Derived.KernelRfl
namespace Go.A
open Go.Proofs

/-! 7: tabular/tabularlaw15.ValueOrder -/
def c7_0 : ACode := .ops [
    ⟨(some 3), none, .e (.box (.t 0)), []⟩,
    ⟨(some 4), none, .e (.box (.t 1)), []⟩,
    ⟨(some 5), none, .e (.box (.t 2)), []⟩,
    ⟨(some 6), none, .q (.mv (.v (.bool false))), []⟩]
def c7_1 : ACode := .ops [
    ⟨(some 16), none, .q (.ld (some 3) (.t 3)), []⟩,
    ⟨(some 17), none, .e (.call 22 [(.t 16)]), []⟩,
    ⟨(some 15), none, .q (.mv (.t 17)), []⟩,
    ⟨(some 18), none, .q (.ext 0 (.t 15)), []⟩,
    ⟨(some 19), none, .q (.ext 1 (.t 15)), []⟩,
    ⟨(some 8), none, .e (.alloc [(.int .i64 0), (.int .i64 0), (.str [])]), []⟩,
    ⟨(some 7), none, .q (.mv (.t 18)), []⟩,
    ⟨none, none, .e (.store 3 (.t 8) (.t 19)), []⟩]
def c7_2 : ACode := .ops [
    ⟨(some 21), none, .q (.ld (some 3) (.t 4)), []⟩,
    ⟨(some 22), none, .e (.call 22 [(.t 21)]), []⟩,
    ⟨(some 20), none, .q (.mv (.t 22)), []⟩,
    ⟨(some 23), none, .q (.ext 0 (.t 20)), []⟩,
    ⟨(some 24), none, .q (.ext 1 (.t 20)), []⟩,
    ⟨(some 10), none, .e (.alloc [(.int .i64 0), (.int .i64 0), (.str [])]), []⟩,
    ⟨(some 9), none, .q (.mv (.t 23)), []⟩,
    ⟨none, none, .e (.store 3 (.t 10) (.t 24)), []⟩]
def c7_3 : ACode := .ops [
    ⟨(some 26), none, .q (.ld (some 3) (.t 5)), []⟩,
    ⟨(some 27), none, .e (.call 22 [(.t 26)]), []⟩,
    ⟨(some 25), none, .q (.mv (.t 27)), []⟩,
    ⟨(some 28), none, .q (.ext 0 (.t 25)), []⟩,
    ⟨(some 29), none, .q (.ext 1 (.t 25)), []⟩,
    ⟨(some 12), none, .e (.alloc [(.int .i64 0), (.int .i64 0), (.str [])]), []⟩,
    ⟨(some 11), none, .q (.mv (.t 28)), []⟩,
    ⟨none, none, .e (.store 3 (.t 12) (.t 29)), []⟩]
def c7_4 : ACode := .ops [
    ⟨(some 30), none, .q (.fa 0 (.t 8)), []⟩,
    ⟨(some 31), none, .q (.ld none (.t 30)), []⟩,
    ⟨(some 32), none, .q (.fa 0 (.t 10)), []⟩,
    ⟨(some 33), none, .q (.ld none (.t 32)), []⟩,
    ⟨(some 34), none, .q (.fa 0 (.t 12)), []⟩,
    ⟨(some 35), none, .q (.ld none (.t 34)), []⟩,
    ⟨(some 36), none, .q (.bsl 1 [(.t 31), (.t 33), (.t 35)]), []⟩,
    ⟨(some 37), none, .q (.len (.t 36)), []⟩,
    ⟨(some 38), none, .q (.mv (.v (.int .i64 0))), []⟩]
def c7_5 : ACode := .ops [
    ⟨(some 39), none, .q (.bin .lss (.t 38) (.t 37)), []⟩]
def c7_6 : ACode := .cond (.t 39) .skip (.exit 0)
def c7_7 : ACode := .ops [
    ⟨(some 40), none, .q (.ia 1 (.t 36) (.t 38)), []⟩,
    ⟨(some 41), none, .q (.ld none (.t 40)), []⟩,
    ⟨(some 14), none, .q (.mv (.t 41)), []⟩]
def c7_8 : ACode := .ops [
    ⟨(some 42), none, .q (.mv (.t 14)), []⟩,
    ⟨(some 43), none, .q (.bin .eql (.t 42) (.v (.int .i64 0))), []⟩,
    ⟨(some 44), none, .q (.mv (.t 43)), []⟩,
    ⟨(some 45), (some (44, false)), .q (.mv (.t 14)), []⟩,
    ⟨(some 46), (some (44, false)), .q (.bin .eql (.t 45) (.v (.int .i64 4))), []⟩,
    ⟨(some 47), none, .q (.pick (.t 44) (.v (.bool true)) (.t 46)), []⟩]
def c7_9 : ACode := .ops [
    ⟨(some 48), none, .e (.call 23 []), []⟩,
    ⟨(some 6), none, .q (.mv (.t 48)), []⟩]
def c7_10 : ACode := .seq c7_9 .ret
def c7_11 : ACode := .cond (.t 47) c7_10 .skip
def c7_12 : ACode := .seq c7_8 c7_11
def c7_13 : ACode := .seq c7_7 c7_12
def c7_14 : ACode := .block 1 c7_13
def c7_15 : ACode := .ops [
    ⟨(some 49), none, .q (.bin .add (.t 38) (.v (.int .i64 1))), []⟩,
    ⟨(some 38), none, .q (.mv (.t 49)), []⟩]
def c7_16 : ACode := .seq c7_14 c7_15
def c7_17 : ACode := .seq c7_6 c7_16
def c7_18 : ACode := .seq c7_5 c7_17
def c7_19 : ACode := .loop c7_18
def c7_20 : ACode := .block 0 c7_19
def c7_21 : ACode := .seq c7_4 c7_20
def c7_22 : ACode := .ops [
    ⟨(some 50), none, .q (.mv (.t 7)), []⟩,
    ⟨(some 51), none, .q (.mv (.t 9)), []⟩,
    ⟨(some 52), none, .e (.call 24 [(.t 50), (.t 51)]), []⟩,
    ⟨(some 53), none, .q (.mv (.t 9)), []⟩,
    ⟨(some 54), none, .q (.mv (.t 7)), []⟩,
    ⟨(some 55), none, .e (.call 24 [(.t 53), (.t 54)]), []⟩,
    ⟨(some 56), none, .q (.un .neg (.t 55)), []⟩,
    ⟨(some 57), none, .q (.bin .neq (.t 52) (.t 56)), []⟩,
    ⟨(some 58), none, .q (.mv (.t 57)), []⟩,
    ⟨(some 59), (some (58, false)), .q (.mv (.t 7)), []⟩,
    ⟨(some 60), (some (58, false)), .q (.mv (.t 7)), []⟩,
    ⟨(some 61), (some (58, false)), .e (.call 24 [(.t 59), (.t 60)]), []⟩,
    ⟨(some 62), (some (58, false)), .q (.bin .neq (.t 61) (.v (.int .i64 0))), []⟩,
    ⟨(some 63), none, .q (.pick (.t 58) (.v (.bool true)) (.t 62)), []⟩]
def c7_23 : ACode := .ops [
    ⟨(some 6), none, .q (.mv (.v (.bool false))), []⟩]
def c7_24 : ACode := .seq c7_23 .ret
def c7_25 : ACode := .cond (.t 63) c7_24 .skip
def c7_26 : ACode := .seq c7_22 c7_25
def c7_27 : ACode := .ops [
    ⟨(some 64), none, .e (.call 23 []), []⟩,
    ⟨(some 65), none, .q (.mv (.t 64)), []⟩,
    ⟨(some 66), (some (65, true)), .q (.mv (.t 7)), []⟩,
    ⟨(some 67), (some (65, true)), .q (.mv (.t 9)), []⟩,
    ⟨(some 68), (some (65, true)), .e (.call 24 [(.t 66), (.t 67)]), []⟩,
    ⟨(some 69), (some (65, true)), .q (.bin .gtr (.t 68) (.v (.int .i64 0))), []⟩,
    ⟨(some 70), (some (65, true)), .q (.mv (.t 69)), []⟩,
    ⟨(some 71), (some (70, false)), .q (.mv (.t 9)), []⟩,
    ⟨(some 72), (some (70, false)), .q (.mv (.t 11)), []⟩,
    ⟨(some 73), (some (70, false)), .e (.call 24 [(.t 71), (.t 72)]), []⟩,
    ⟨(some 74), (some (70, false)), .q (.bin .gtr (.t 73) (.v (.int .i64 0))), []⟩,
    ⟨(some 75), (some (65, true)), .q (.pick (.t 70) (.v (.bool true)) (.t 74)), []⟩,
    ⟨(some 76), (some (65, true)), .q (.mv (.t 75)), []⟩,
    ⟨(some 77), (some (76, false)), .q (.mv (.t 7)), []⟩,
    ⟨(some 78), (some (76, false)), .q (.mv (.t 11)), []⟩,
    ⟨(some 79), (some (76, false)), .e (.call 24 [(.t 77), (.t 78)]), []⟩,
    ⟨(some 80), (some (76, false)), .q (.bin .leq (.t 79) (.v (.int .i64 0))), []⟩,
    ⟨(some 81), (some (65, true)), .q (.pick (.t 76) (.v (.bool true)) (.t 80)), []⟩,
    ⟨(some 82), none, .q (.pick (.t 65) (.t 81) (.v (.bool false))), []⟩,
    ⟨(some 6), none, .q (.mv (.t 82)), []⟩]
def c7_28 : ACode := .seq c7_27 .ret
def c7_29 : ACode := .seq c7_26 c7_28
def c7_30 : ACode := .seq c7_21 c7_29
def c7_31 : ACode := .seq c7_3 c7_30
def c7_32 : ACode := .seq c7_2 c7_31
def c7_33 : ACode := .seq c7_1 c7_32
def c7_34 : ACode := .seq c7_0 c7_33
@[go_sem] theorem c7_0_wp : type_of% (wp_of c7_0.eq_1) := wp_of c7_0.eq_1
@[go_sem] theorem c7_1_wp : type_of% (wp_of c7_1.eq_1) := wp_of c7_1.eq_1
@[go_sem] theorem c7_2_wp : type_of% (wp_of c7_2.eq_1) := wp_of c7_2.eq_1
@[go_sem] theorem c7_3_wp : type_of% (wp_of c7_3.eq_1) := wp_of c7_3.eq_1
@[go_sem] theorem c7_4_wp : type_of% (wp_of c7_4.eq_1) := wp_of c7_4.eq_1
@[go_sem] theorem c7_5_wp : type_of% (wp_of c7_5.eq_1) := wp_of c7_5.eq_1
@[go_sem] theorem c7_6_wp : type_of% (wp_of c7_6.eq_1) := wp_of c7_6.eq_1
@[go_sem] theorem c7_7_wp : type_of% (wp_of c7_7.eq_1) := wp_of c7_7.eq_1
@[go_sem] theorem c7_8_wp : type_of% (wp_of c7_8.eq_1) := wp_of c7_8.eq_1
@[go_sem] theorem c7_9_wp : type_of% (wp_of c7_9.eq_1) := wp_of c7_9.eq_1
@[go_sem] theorem c7_10_wp : type_of% (wp_of c7_10.eq_1) := wp_of c7_10.eq_1
@[go_sem] theorem c7_11_wp : type_of% (wp_of c7_11.eq_1) := wp_of c7_11.eq_1
@[go_sem] theorem c7_12_wp : type_of% (wp_of c7_12.eq_1) := wp_of c7_12.eq_1
@[go_sem] theorem c7_13_wp : type_of% (wp_of c7_13.eq_1) := wp_of c7_13.eq_1
@[go_sem] theorem c7_14_wp : type_of% (wp_of c7_14.eq_1) := wp_of c7_14.eq_1
@[go_sem] theorem c7_15_wp : type_of% (wp_of c7_15.eq_1) := wp_of c7_15.eq_1
@[go_sem] theorem c7_16_wp : type_of% (wp_of c7_16.eq_1) := wp_of c7_16.eq_1
@[go_sem] theorem c7_17_wp : type_of% (wp_of c7_17.eq_1) := wp_of c7_17.eq_1
@[go_sem] theorem c7_18_wp : type_of% (wp_of c7_18.eq_1) := wp_of c7_18.eq_1
@[go_sem] theorem c7_19_wp : type_of% (wp_of c7_19.eq_1) := wp_of c7_19.eq_1
@[go_sem] theorem c7_20_wp : type_of% (wp_of c7_20.eq_1) := wp_of c7_20.eq_1
@[go_sem] theorem c7_21_wp : type_of% (wp_of c7_21.eq_1) := wp_of c7_21.eq_1
@[go_sem] theorem c7_22_wp : type_of% (wp_of c7_22.eq_1) := wp_of c7_22.eq_1
@[go_sem] theorem c7_23_wp : type_of% (wp_of c7_23.eq_1) := wp_of c7_23.eq_1
@[go_sem] theorem c7_24_wp : type_of% (wp_of c7_24.eq_1) := wp_of c7_24.eq_1
@[go_sem] theorem c7_25_wp : type_of% (wp_of c7_25.eq_1) := wp_of c7_25.eq_1
@[go_sem] theorem c7_26_wp : type_of% (wp_of c7_26.eq_1) := wp_of c7_26.eq_1
@[go_sem] theorem c7_27_wp : type_of% (wp_of c7_27.eq_1) := wp_of c7_27.eq_1
@[go_sem] theorem c7_28_wp : type_of% (wp_of c7_28.eq_1) := wp_of c7_28.eq_1
@[go_sem] theorem c7_29_wp : type_of% (wp_of c7_29.eq_1) := wp_of c7_29.eq_1
@[go_sem] theorem c7_30_wp : type_of% (wp_of c7_30.eq_1) := wp_of c7_30.eq_1
@[go_sem] theorem c7_31_wp : type_of% (wp_of c7_31.eq_1) := wp_of c7_31.eq_1
@[go_sem] theorem c7_32_wp : type_of% (wp_of c7_32.eq_1) := wp_of c7_32.eq_1
@[go_sem] theorem c7_33_wp : type_of% (wp_of c7_33.eq_1) := wp_of c7_33.eq_1
@[go_sem] theorem c7_34_wp : type_of% (wp_of c7_34.eq_1) := wp_of c7_34.eq_1
def c7 : AFn := ⟨83, [.t 6], c7_34⟩
set_option maxRecDepth 100000 in
theorem c7_ok : compF Tryd.prog Tryd.f7 = some c7 := by kernel_rfl
theorem a7 {args : List AV} {σ : ASt} {R : AV → ASt → Prop} (hl : args.length ≤ 83) (h : c7_34.wp Tryd.prog (RetQ [.t 6] R) (init args) σ) : ACalls Tryd.prog 7 args σ R := acalls_of Tryd.func7 c7_ok hl h

/-! 23: tabular/tabularlaw15.awake -/
def c23_0 : ACode := .ops [
    ⟨(some 0), none, .q (.mv (.v (.bool false))), []⟩]
def c23_1 : ACode := .ops [
    ⟨(some 4), none, .e (.call 52 [(.v (.str [50]))]), []⟩,
    ⟨(some 5), none, .q (.build [(.int .i64 0), (.int .i64 0), (.str [])] [(0, 1, (.v (.int .i64 3))), (1, 1, (.v (.int .i64 1)))]), []⟩,
    ⟨(some 6), none, .e (.call 28 [(.t 5)]), []⟩,
    ⟨(some 7), none, .e (.call 51 [(.v (.int .i64 0)), (.t 4), (.t 6)]), []⟩,
    ⟨(some 1), none, .q (.mv (.t 7)), []⟩]
def c23_2 : ACode := .ops [
    ⟨(some 8), none, .q (.build [(.int .i64 0), (.int .i64 0), (.str [])] [(0, 1, (.v (.int .i64 2))), (2, 1, (.v (.str [98])))]), []⟩,
    ⟨(some 9), none, .e (.call 28 [(.t 8)]), []⟩,
    ⟨(some 2), none, .q (.mv (.t 9)), []⟩]
def c23_3 : ACode := .ops [
    ⟨(some 10), none, .q (.build [(.int .i64 0), (.int .i64 0), (.str [])] [(0, 1, (.v (.int .i64 2))), (2, 1, (.v (.str [65])))]), []⟩,
    ⟨(some 11), none, .e (.call 28 [(.t 10)]), []⟩,
    ⟨(some 3), none, .q (.mv (.t 11)), []⟩]
def c23_4 : ACode := .ops [
    ⟨(some 12), none, .q (.mv (.t 1)), []⟩,
    ⟨(some 13), none, .e (.call 25 [(.t 12)]), []⟩,
    ⟨(some 14), none, .q (.build [(.int .i64 0), (.int .i64 0), (.str [])] [(0, 1, (.v (.int .i64 1))), (1, 1, (.v (.int .i64 30000)))]), []⟩,
    ⟨(some 15), none, .q (.eqs false [(0, 0), (1, 0), (2, 2)] (.t 13) (.t 14)), []⟩,
    ⟨(some 16), none, .q (.mv (.t 15)), []⟩,
    ⟨(some 17), (some (16, true)), .q (.mv (.t 2)), []⟩,
    ⟨(some 18), (some (16, true)), .q (.mv (.t 3)), []⟩,
    ⟨(some 19), (some (16, true)), .e (.call 24 [(.t 17), (.t 18)]), []⟩,
    ⟨(some 20), (some (16, true)), .q (.bin .eql (.t 19) (.v (.int .i64 1))), []⟩,
    ⟨(some 21), none, .q (.pick (.t 16) (.t 20) (.v (.bool false))), []⟩,
    ⟨(some 22), none, .q (.mv (.t 21)), []⟩,
    ⟨(some 23), (some (22, true)), .q (.build [(.int .i64 0), (.int .i64 0), (.str [])] [(0, 1, (.v (.int .i64 2))), (2, 1, (.v (.str [49])))]), []⟩,
    ⟨(some 24), (some (22, true)), .e (.call 28 [(.t 23)]), []⟩,
    ⟨(some 25), (some (22, true)), .e (.call 53 [(.t 24)]), []⟩,
    ⟨(some 26), (some (22, true)), .q (.bin .eql (.t 25) (.v (.str [39, 49]))), []⟩,
    ⟨(some 27), none, .q (.pick (.t 22) (.t 26) (.v (.bool false))), []⟩,
    ⟨(some 28), none, .q (.mv (.t 27)), []⟩,
    ⟨(some 29), (some (28, true)), .q (.mki 39 (.v (.int .i64 1))), []⟩,
    ⟨(some 30), (some (28, true)), .e (.call 54 [(.t 29)]), []⟩,
    ⟨(some 31), (some (28, true)), .q (.bin .eql (.t 30) (.v (.str [35, 68, 73, 86, 47, 48, 33]))), []⟩,
    ⟨(some 32), none, .q (.pick (.t 28) (.t 31) (.v (.bool false))), []⟩,
    ⟨(some 0), none, .q (.mv (.t 32)), []⟩]
def c23_5 : ACode := .seq c23_4 .ret
def c23_6 : ACode := .seq c23_3 c23_5
def c23_7 : ACode := .seq c23_2 c23_6
def c23_8 : ACode := .seq c23_1 c23_7
def c23_9 : ACode := .seq c23_0 c23_8
@[go_sem] theorem c23_0_wp : type_of% (wp_of c23_0.eq_1) := wp_of c23_0.eq_1
@[go_sem] theorem c23_1_wp : type_of% (wp_of c23_1.eq_1) := wp_of c23_1.eq_1
@[go_sem] theorem c23_2_wp : type_of% (wp_of c23_2.eq_1) := wp_of c23_2.eq_1
@[go_sem] theorem c23_3_wp : type_of% (wp_of c23_3.eq_1) := wp_of c23_3.eq_1
@[go_sem] theorem c23_4_wp : type_of% (wp_of c23_4.eq_1) := wp_of c23_4.eq_1
@[go_sem] theorem c23_5_wp : type_of% (wp_of c23_5.eq_1) := wp_of c23_5.eq_1
@[go_sem] theorem c23_6_wp : type_of% (wp_of c23_6.eq_1) := wp_of c23_6.eq_1
@[go_sem] theorem c23_7_wp : type_of% (wp_of c23_7.eq_1) := wp_of c23_7.eq_1
@[go_sem] theorem c23_8_wp : type_of% (wp_of c23_8.eq_1) := wp_of c23_8.eq_1
@[go_sem] theorem c23_9_wp : type_of% (wp_of c23_9.eq_1) := wp_of c23_9.eq_1
def c23 : AFn := ⟨33, [.t 0], c23_9⟩
set_option maxRecDepth 100000 in
theorem c23_ok : compF Tryd.prog Tryd.f23 = some c23 := by kernel_rfl
theorem a23 {args : List AV} {σ : ASt} {R : AV → ASt → Prop} (hl : args.length ≤ 33) (h : c23_9.wp Tryd.prog (RetQ [.t 0] R) (init args) σ) : ACalls Tryd.prog 23 args σ R := acalls_of Tryd.func23 c23_ok hl h

/-! 51: tabular/value.Arith -/
def c51_0 : ACode := .ops [
    ⟨(some 6), none, .q (.mv (.v .nili)), []⟩]
def c51_1 : ACode := .ops [
    ⟨(some 11), none, .q (.mv (.t 1)), []⟩,
    ⟨(some 12), none, .e (.call 16 [(.t 11)]), []⟩,
    ⟨(some 10), none, .q (.mv (.t 12)), []⟩,
    ⟨(some 13), none, .q (.ext 0 (.t 10)), []⟩,
    ⟨(some 14), none, .q (.ext 1 (.t 10)), []⟩,
    ⟨(some 7), none, .q (.mv (.t 13)), []⟩,
    ⟨(some 8), none, .q (.mv (.t 14)), []⟩]
def c51_2 : ACode := .ops [
    ⟨(some 15), none, .q (.mv (.t 8)), []⟩,
    ⟨(some 16), none, .q (.bin .neq (.t 15) (.v (.int .i64 0))), []⟩]
def c51_3 : ACode := .ops [
    ⟨(some 17), none, .q (.mv (.t 8)), []⟩,
    ⟨(some 18), none, .q (.mki 39 (.t 17)), []⟩,
    ⟨(some 6), none, .q (.mv (.t 18)), []⟩]
def c51_4 : ACode := .seq c51_3 .ret
def c51_5 : ACode := .cond (.t 16) c51_4 .skip
def c51_6 : ACode := .seq c51_2 c51_5
def c51_7 : ACode := .ops [
    ⟨(some 20), none, .q (.mv (.t 2)), []⟩,
    ⟨(some 21), none, .e (.call 16 [(.t 20)]), []⟩,
    ⟨(some 19), none, .q (.mv (.t 21)), []⟩,
    ⟨(some 22), none, .q (.ext 0 (.t 19)), []⟩,
    ⟨(some 23), none, .q (.ext 1 (.t 19)), []⟩,
    ⟨(some 9), none, .q (.mv (.t 22)), []⟩,
    ⟨(some 8), none, .q (.mv (.t 23)), []⟩]
def c51_8 : ACode := .ops [
    ⟨(some 24), none, .q (.mv (.t 8)), []⟩,
    ⟨(some 25), none, .q (.bin .neq (.t 24) (.v (.int .i64 0))), []⟩]
def c51_9 : ACode := .ops [
    ⟨(some 26), none, .q (.mv (.t 8)), []⟩,
    ⟨(some 27), none, .q (.mki 39 (.t 26)), []⟩,
    ⟨(some 6), none, .q (.mv (.t 27)), []⟩]
def c51_10 : ACode := .seq c51_9 .ret
def c51_11 : ACode := .cond (.t 25) c51_10 .skip
def c51_12 : ACode := .seq c51_8 c51_11
def c51_13 : ACode := .ops [
    ⟨(some 28), none, .q (.mv (.t 0)), []⟩]
def c51_14 : ACode := .ops [
    ⟨(some 30), none, .q (.bin .eql (.t 28) (.v (.int .i64 0))), []⟩,
    ⟨(some 29), none, .q (.mv (.t 30)), []⟩]
def c51_15 : ACode := .ops [
    ⟨(some 31), none, .q (.mv (.t 7)), []⟩,
    ⟨(some 32), none, .q (.mv (.t 9)), []⟩,
    ⟨(some 33), none, .e (.call 70 [(.t 31), (.t 32)]), []⟩,
    ⟨(some 34), none, .q (.ext 0 (.t 33)), []⟩,
    ⟨(some 35), none, .q (.ext 1 (.t 33)), []⟩,
    ⟨(some 36), none, .e (.call 34 [(.t 34), (.t 35)]), []⟩,
    ⟨(some 6), none, .q (.mv (.t 36)), []⟩]
def c51_16 : ACode := .seq c51_15 .ret
def c51_17 : ACode := .ops [
    ⟨(some 38), none, .q (.bin .eql (.t 28) (.v (.int .i64 1))), []⟩,
    ⟨(some 37), none, .q (.mv (.t 38)), []⟩]
def c51_18 : ACode := .ops [
    ⟨(some 39), none, .q (.mv (.t 7)), []⟩,
    ⟨(some 40), none, .q (.mv (.t 9)), []⟩,
    ⟨(some 41), none, .e (.call 65 [(.t 39), (.t 40)]), []⟩,
    ⟨(some 42), none, .q (.ext 0 (.t 41)), []⟩,
    ⟨(some 43), none, .q (.ext 1 (.t 41)), []⟩,
    ⟨(some 44), none, .e (.call 34 [(.t 42), (.t 43)]), []⟩,
    ⟨(some 6), none, .q (.mv (.t 44)), []⟩]
def c51_19 : ACode := .seq c51_18 .ret
def c51_20 : ACode := .ops [
    ⟨(some 46), none, .q (.bin .eql (.t 28) (.v (.int .i64 2))), []⟩,
    ⟨(some 45), none, .q (.mv (.t 46)), []⟩]
def c51_21 : ACode := .ops [
    ⟨(some 47), none, .q (.mv (.t 7)), []⟩,
    ⟨(some 48), none, .q (.mv (.t 9)), []⟩,
    ⟨(some 49), none, .e (.call 74 [(.t 47), (.t 48)]), []⟩,
    ⟨(some 50), none, .q (.ext 0 (.t 49)), []⟩,
    ⟨(some 51), none, .q (.ext 1 (.t 49)), []⟩,
    ⟨(some 52), none, .e (.call 34 [(.t 50), (.t 51)]), []⟩,
    ⟨(some 6), none, .q (.mv (.t 52)), []⟩]
def c51_22 : ACode := .seq c51_21 .ret
def c51_23 : ACode := .ops [
    ⟨(some 54), none, .q (.bin .eql (.t 28) (.v (.int .i64 3))), []⟩,
    ⟨(some 53), none, .q (.mv (.t 54)), []⟩]
def c51_24 : ACode := .ops [
    ⟨(some 55), none, .q (.mv (.t 9)), []⟩,
    ⟨(some 56), none, .q (.bin .eql (.t 55) (.v (.int .i64 0))), []⟩]
def c51_25 : ACode := .ops [
    ⟨(some 57), none, .q (.mki 39 (.v (.int .i64 1))), []⟩,
    ⟨(some 6), none, .q (.mv (.t 57)), []⟩]
def c51_26 : ACode := .seq c51_25 .ret
def c51_27 : ACode := .cond (.t 56) c51_26 .skip
def c51_28 : ACode := .seq c51_24 c51_27
def c51_29 : ACode := .ops [
    ⟨(some 58), none, .q (.mv (.t 7)), []⟩,
    ⟨(some 59), none, .q (.mv (.t 9)), []⟩,
    ⟨(some 60), none, .e (.call 81 [(.t 58), (.t 59)]), []⟩,
    ⟨(some 61), none, .q (.ext 0 (.t 60)), []⟩,
    ⟨(some 62), none, .q (.ext 1 (.t 60)), []⟩,
    ⟨(some 63), none, .e (.call 34 [(.t 61), (.t 62)]), []⟩,
    ⟨(some 6), none, .q (.mv (.t 63)), []⟩]
def c51_30 : ACode := .seq c51_29 .ret
def c51_31 : ACode := .seq c51_28 c51_30
def c51_32 : ACode := .cond (.t 53) c51_31 .skip
def c51_33 : ACode := .seq c51_23 c51_32
def c51_34 : ACode := .cond (.t 45) c51_22 c51_33
def c51_35 : ACode := .seq c51_20 c51_34
def c51_36 : ACode := .cond (.t 37) c51_19 c51_35
def c51_37 : ACode := .seq c51_17 c51_36
def c51_38 : ACode := .cond (.t 29) c51_16 c51_37
def c51_39 : ACode := .seq c51_14 c51_38
def c51_40 : ACode := .block 0 c51_39
def c51_41 : ACode := .seq c51_13 c51_40
def c51_42 : ACode := .ops [
    ⟨(some 64), none, .q (.mv (.t 7)), []⟩,
    ⟨(some 65), none, .q (.mv (.t 9)), []⟩,
    ⟨(some 66), none, .e (.call 45 [(.t 64), (.t 65)]), []⟩,
    ⟨(some 6), none, .q (.mv (.t 66)), []⟩]
def c51_43 : ACode := .seq c51_42 .ret
def c51_44 : ACode := .seq c51_41 c51_43
def c51_45 : ACode := .seq c51_12 c51_44
def c51_46 : ACode := .seq c51_7 c51_45
def c51_47 : ACode := .seq c51_6 c51_46
def c51_48 : ACode := .seq c51_1 c51_47
def c51_49 : ACode := .seq c51_0 c51_48
@[go_sem] theorem c51_0_wp : type_of% (wp_of c51_0.eq_1) := wp_of c51_0.eq_1
@[go_sem] theorem c51_1_wp : type_of% (wp_of c51_1.eq_1) := wp_of c51_1.eq_1
@[go_sem] theorem c51_2_wp : type_of% (wp_of c51_2.eq_1) := wp_of c51_2.eq_1
@[go_sem] theorem c51_3_wp : type_of% (wp_of c51_3.eq_1) := wp_of c51_3.eq_1
@[go_sem] theorem c51_4_wp : type_of% (wp_of c51_4.eq_1) := wp_of c51_4.eq_1
@[go_sem] theorem c51_5_wp : type_of% (wp_of c51_5.eq_1) := wp_of c51_5.eq_1
@[go_sem] theorem c51_6_wp : type_of% (wp_of c51_6.eq_1) := wp_of c51_6.eq_1
@[go_sem] theorem c51_7_wp : type_of% (wp_of c51_7.eq_1) := wp_of c51_7.eq_1
@[go_sem] theorem c51_8_wp : type_of% (wp_of c51_8.eq_1) := wp_of c51_8.eq_1
@[go_sem] theorem c51_9_wp : type_of% (wp_of c51_9.eq_1) := wp_of c51_9.eq_1
@[go_sem] theorem c51_10_wp : type_of% (wp_of c51_10.eq_1) := wp_of c51_10.eq_1
@[go_sem] theorem c51_11_wp : type_of% (wp_of c51_11.eq_1) := wp_of c51_11.eq_1
@[go_sem] theorem c51_12_wp : type_of% (wp_of c51_12.eq_1) := wp_of c51_12.eq_1
@[go_sem] theorem c51_13_wp : type_of% (wp_of c51_13.eq_1) := wp_of c51_13.eq_1
@[go_sem] theorem c51_14_wp : type_of% (wp_of c51_14.eq_1) := wp_of c51_14.eq_1
@[go_sem] theorem c51_15_wp : type_of% (wp_of c51_15.eq_1) := wp_of c51_15.eq_1
@[go_sem] theorem c51_16_wp : type_of% (wp_of c51_16.eq_1) := wp_of c51_16.eq_1
@[go_sem] theorem c51_17_wp : type_of% (wp_of c51_17.eq_1) := wp_of c51_17.eq_1
@[go_sem] theorem c51_18_wp : type_of% (wp_of c51_18.eq_1) := wp_of c51_18.eq_1
@[go_sem] theorem c51_19_wp : type_of% (wp_of c51_19.eq_1) := wp_of c51_19.eq_1
@[go_sem] theorem c51_20_wp : type_of% (wp_of c51_20.eq_1) := wp_of c51_20.eq_1
@[go_sem] theorem c51_21_wp : type_of% (wp_of c51_21.eq_1) := wp_of c51_21.eq_1
@[go_sem] theorem c51_22_wp : type_of% (wp_of c51_22.eq_1) := wp_of c51_22.eq_1
@[go_sem] theorem c51_23_wp : type_of% (wp_of c51_23.eq_1) := wp_of c51_23.eq_1
@[go_sem] theorem c51_24_wp : type_of% (wp_of c51_24.eq_1) := wp_of c51_24.eq_1
@[go_sem] theorem c51_25_wp : type_of% (wp_of c51_25.eq_1) := wp_of c51_25.eq_1
@[go_sem] theorem c51_26_wp : type_of% (wp_of c51_26.eq_1) := wp_of c51_26.eq_1
@[go_sem] theorem c51_27_wp : type_of% (wp_of c51_27.eq_1) := wp_of c51_27.eq_1
@[go_sem] theorem c51_28_wp : type_of% (wp_of c51_28.eq_1) := wp_of c51_28.eq_1
@[go_sem] theorem c51_29_wp : type_of% (wp_of c51_29.eq_1) := wp_of c51_29.eq_1
@[go_sem] theorem c51_30_wp : type_of% (wp_of c51_30.eq_1) := wp_of c51_30.eq_1
@[go_sem] theorem c51_31_wp : type_of% (wp_of c51_31.eq_1) := wp_of c51_31.eq_1
@[go_sem] theorem c51_32_wp : type_of% (wp_of c51_32.eq_1) := wp_of c51_32.eq_1
@[go_sem] theorem c51_33_wp : type_of% (wp_of c51_33.eq_1) := wp_of c51_33.eq_1
@[go_sem] theorem c51_34_wp : type_of% (wp_of c51_34.eq_1) := wp_of c51_34.eq_1
@[go_sem] theorem c51_35_wp : type_of% (wp_of c51_35.eq_1) := wp_of c51_35.eq_1
@[go_sem] theorem c51_36_wp : type_of% (wp_of c51_36.eq_1) := wp_of c51_36.eq_1
@[go_sem] theorem c51_37_wp : type_of% (wp_of c51_37.eq_1) := wp_of c51_37.eq_1
@[go_sem] theorem c51_38_wp : type_of% (wp_of c51_38.eq_1) := wp_of c51_38.eq_1
@[go_sem] theorem c51_39_wp : type_of% (wp_of c51_39.eq_1) := wp_of c51_39.eq_1
@[go_sem] theorem c51_40_wp : type_of% (wp_of c51_40.eq_1) := wp_of c51_40.eq_1
@[go_sem] theorem c51_41_wp : type_of% (wp_of c51_41.eq_1) := wp_of c51_41.eq_1
@[go_sem] theorem c51_42_wp : type_of% (wp_of c51_42.eq_1) := wp_of c51_42.eq_1
@[go_sem] theorem c51_43_wp : type_of% (wp_of c51_43.eq_1) := wp_of c51_43.eq_1
@[go_sem] theorem c51_44_wp : type_of% (wp_of c51_44.eq_1) := wp_of c51_44.eq_1
@[go_sem] theorem c51_45_wp : type_of% (wp_of c51_45.eq_1) := wp_of c51_45.eq_1
@[go_sem] theorem c51_46_wp : type_of% (wp_of c51_46.eq_1) := wp_of c51_46.eq_1
@[go_sem] theorem c51_47_wp : type_of% (wp_of c51_47.eq_1) := wp_of c51_47.eq_1
@[go_sem] theorem c51_48_wp : type_of% (wp_of c51_48.eq_1) := wp_of c51_48.eq_1
@[go_sem] theorem c51_49_wp : type_of% (wp_of c51_49.eq_1) := wp_of c51_49.eq_1
def c51 : AFn := ⟨67, [.t 6], c51_49⟩
set_option maxRecDepth 100000 in
theorem c51_ok : compF Tryd.prog Tryd.f51 = some c51 := by kernel_rfl
theorem a51 {args : List AV} {σ : ASt} {R : AV → ASt → Prop} (hl : args.length ≤ 67) (h : c51_49.wp Tryd.prog (RetQ [.t 6] R) (init args) σ) : ACalls Tryd.prog 51 args σ R := acalls_of Tryd.func51 c51_ok hl h

/-! 52: tabular/value.Input -/
def c52_0 : ACode := .ops [
    ⟨(some 2), none, .q (.mv (.v .nili)), []⟩]
def c52_1 : ACode := .ops [
    ⟨(some 12), none, .q (.mv (.t 0)), []⟩,
    ⟨(some 13), none, .e (.call 61 [(.t 12), (.v (.str [39]))]), []⟩,
    ⟨(some 11), none, .q (.mv (.t 13)), []⟩,
    ⟨(some 14), none, .q (.ext 0 (.t 11)), []⟩,
    ⟨(some 15), none, .q (.ext 1 (.t 11)), []⟩,
    ⟨(some 3), none, .q (.mv (.t 14)), []⟩,
    ⟨(some 4), none, .q (.mv (.t 15)), []⟩]
def c52_2 : ACode := .ops [
    ⟨(some 16), none, .q (.mv (.t 4)), []⟩]
def c52_3 : ACode := .ops [
    ⟨(some 17), none, .q (.mv (.t 3)), []⟩,
    ⟨(some 18), none, .q (.mki 67 (.t 17)), []⟩,
    ⟨(some 2), none, .q (.mv (.t 18)), []⟩]
def c52_4 : ACode := .seq c52_3 .ret
def c52_5 : ACode := .cond (.t 16) c52_4 .skip
def c52_6 : ACode := .seq c52_2 c52_5
def c52_7 : ACode := .seq c52_1 c52_6
def c52_8 : ACode := .ops [
    ⟨(some 19), none, .q (.mv (.t 0)), []⟩,
    ⟨(some 20), none, .e (.call 30 [(.t 19)]), []⟩,
    ⟨(some 5), none, .q (.mv (.t 20)), []⟩]
def c52_9 : ACode := .ops [
    ⟨(some 22), none, .q (.mv (.t 5)), []⟩,
    ⟨(some 23), none, .e (.call 29 [(.t 22)]), []⟩,
    ⟨(some 21), none, .q (.mv (.t 23)), []⟩,
    ⟨(some 24), none, .q (.ext 0 (.t 21)), []⟩,
    ⟨(some 25), none, .q (.ext 1 (.t 21)), []⟩,
    ⟨(some 6), none, .q (.mv (.t 24)), []⟩,
    ⟨(some 7), none, .q (.mv (.t 25)), []⟩]
def c52_10 : ACode := .ops [
    ⟨(some 26), none, .q (.mv (.t 7)), []⟩]
def c52_11 : ACode := .ops [
    ⟨(some 27), none, .q (.mv (.t 6)), []⟩,
    ⟨(some 28), none, .q (.mki 62 (.t 27)), []⟩,
    ⟨(some 2), none, .q (.mv (.t 28)), []⟩]
def c52_12 : ACode := .seq c52_11 .ret
def c52_13 : ACode := .cond (.t 26) c52_12 .skip
def c52_14 : ACode := .seq c52_10 c52_13
def c52_15 : ACode := .seq c52_9 c52_14
def c52_16 : ACode := .ops [
    ⟨(some 29), none, .q (.mv (.t 5)), []⟩,
    ⟨(some 30), none, .e (.call 58 [(.t 29)]), []⟩,
    ⟨(some 8), none, .q (.mv (.t 30)), []⟩]
def c52_17 : ACode := .ops [
    ⟨(some 31), none, .q (.mv (.t 8)), []⟩]
def c52_18 : ACode := .ops [
    ⟨(some 33), none, .q (.bin .eql (.t 31) (.v (.str []))), []⟩,
    ⟨(some 32), none, .q (.mv (.t 33)), []⟩]
def c52_19 : ACode := .ops [
    ⟨(some 34), none, .q (.build [] []), []⟩,
    ⟨(some 35), none, .q (.mki 100 (.t 34)), []⟩,
    ⟨(some 2), none, .q (.mv (.t 35)), []⟩]
def c52_20 : ACode := .seq c52_19 .ret
def c52_21 : ACode := .ops [
    ⟨(some 37), none, .q (.bin .eql (.t 31) (.v (.str [84, 82, 85, 69]))), []⟩,
    ⟨(some 36), none, .q (.mv (.t 37)), []⟩]
def c52_22 : ACode := .ops [
    ⟨(some 38), none, .q (.mki 66 (.v (.bool true))), []⟩,
    ⟨(some 2), none, .q (.mv (.t 38)), []⟩]
def c52_23 : ACode := .seq c52_22 .ret
def c52_24 : ACode := .ops [
    ⟨(some 40), none, .q (.bin .eql (.t 31) (.v (.str [70, 65, 76, 83, 69]))), []⟩,
    ⟨(some 39), none, .q (.mv (.t 40)), []⟩]
def c52_25 : ACode := .ops [
    ⟨(some 41), none, .q (.mki 66 (.v (.bool false))), []⟩,
    ⟨(some 2), none, .q (.mv (.t 41)), []⟩]
def c52_26 : ACode := .seq c52_25 .ret
def c52_27 : ACode := .cond (.t 39) c52_26 .skip
def c52_28 : ACode := .seq c52_24 c52_27
def c52_29 : ACode := .cond (.t 36) c52_23 c52_28
def c52_30 : ACode := .seq c52_21 c52_29
def c52_31 : ACode := .cond (.t 32) c52_20 c52_30
def c52_32 : ACode := .seq c52_18 c52_31
def c52_33 : ACode := .block 0 c52_32
def c52_34 : ACode := .seq c52_17 c52_33
def c52_35 : ACode := .ops [
    ⟨(some 42), none, .e (.call 60 []), []⟩,
    ⟨(some 43), none, .q (.len (.t 42)), []⟩,
    ⟨(some 44), none, .q (.mv (.v (.int .i64 0))), []⟩]
def c52_36 : ACode := .ops [
    ⟨(some 45), none, .q (.bin .lss (.t 44) (.t 43)), []⟩]
def c52_37 : ACode := .cond (.t 45) .skip (.exit 1)
def c52_38 : ACode := .ops [
    ⟨(some 46), none, .q (.mv (.t 44)), []⟩,
    ⟨(some 47), none, .q (.ia 1 (.t 42) (.t 44)), []⟩,
    ⟨(some 48), none, .q (.ld none (.t 47)), []⟩,
    ⟨(some 9), none, .q (.mv (.t 46)), []⟩,
    ⟨(some 10), none, .q (.mv (.t 48)), []⟩]
def c52_39 : ACode := .ops [
    ⟨(some 49), none, .q (.mv (.t 8)), []⟩,
    ⟨(some 50), none, .q (.mv (.t 10)), []⟩,
    ⟨(some 51), none, .q (.bin .eql (.t 49) (.t 50)), []⟩]
def c52_40 : ACode := .ops [
    ⟨(some 52), none, .q (.mv (.t 9)), []⟩,
    ⟨(some 53), none, .q (.bin .add (.t 52) (.v (.int .i64 1))), []⟩,
    ⟨(some 54), none, .q (.mki 39 (.t 53)), []⟩,
    ⟨(some 2), none, .q (.mv (.t 54)), []⟩]
def c52_41 : ACode := .seq c52_40 .ret
def c52_42 : ACode := .cond (.t 51) c52_41 .skip
def c52_43 : ACode := .seq c52_39 c52_42
def c52_44 : ACode := .seq c52_38 c52_43
def c52_45 : ACode := .block 2 c52_44
def c52_46 : ACode := .ops [
    ⟨(some 55), none, .q (.bin .add (.t 44) (.v (.int .i64 1))), []⟩,
    ⟨(some 44), none, .q (.mv (.t 55)), []⟩]
def c52_47 : ACode := .seq c52_45 c52_46
def c52_48 : ACode := .seq c52_37 c52_47
def c52_49 : ACode := .seq c52_36 c52_48
def c52_50 : ACode := .loop c52_49
def c52_51 : ACode := .block 1 c52_50
def c52_52 : ACode := .seq c52_35 c52_51
def c52_53 : ACode := .ops [
    ⟨(some 56), none, .q (.mv (.t 0)), []⟩,
    ⟨(some 57), none, .q (.mki 67 (.t 56)), []⟩,
    ⟨(some 2), none, .q (.mv (.t 57)), []⟩]
def c52_54 : ACode := .seq c52_53 .ret
def c52_55 : ACode := .seq c52_52 c52_54
def c52_56 : ACode := .seq c52_34 c52_55
def c52_57 : ACode := .seq c52_16 c52_56
def c52_58 : ACode := .seq c52_15 c52_57
def c52_59 : ACode := .seq c52_8 c52_58
def c52_60 : ACode := .seq c52_7 c52_59
def c52_61 : ACode := .seq c52_0 c52_60
@[go_sem] theorem c52_0_wp : type_of% (wp_of c52_0.eq_1) := wp_of c52_0.eq_1
@[go_sem] theorem c52_1_wp : type_of% (wp_of c52_1.eq_1) := wp_of c52_1.eq_1
@[go_sem] theorem c52_2_wp : type_of% (wp_of c52_2.eq_1) := wp_of c52_2.eq_1
@[go_sem] theorem c52_3_wp : type_of% (wp_of c52_3.eq_1) := wp_of c52_3.eq_1
@[go_sem] theorem c52_4_wp : type_of% (wp_of c52_4.eq_1) := wp_of c52_4.eq_1
@[go_sem] theorem c52_5_wp : type_of% (wp_of c52_5.eq_1) := wp_of c52_5.eq_1
@[go_sem] theorem c52_6_wp : type_of% (wp_of c52_6.eq_1) := wp_of c52_6.eq_1
@[go_sem] theorem c52_7_wp : type_of% (wp_of c52_7.eq_1) := wp_of c52_7.eq_1
@[go_sem] theorem c52_8_wp : type_of% (wp_of c52_8.eq_1) := wp_of c52_8.eq_1
@[go_sem] theorem c52_9_wp : type_of% (wp_of c52_9.eq_1) := wp_of c52_9.eq_1
@[go_sem] theorem c52_10_wp : type_of% (wp_of c52_10.eq_1) := wp_of c52_10.eq_1
@[go_sem] theorem c52_11_wp : type_of% (wp_of c52_11.eq_1) := wp_of c52_11.eq_1
@[go_sem] theorem c52_12_wp : type_of% (wp_of c52_12.eq_1) := wp_of c52_12.eq_1
@[go_sem] theorem c52_13_wp : type_of% (wp_of c52_13.eq_1) := wp_of c52_13.eq_1
@[go_sem] theorem c52_14_wp : type_of% (wp_of c52_14.eq_1) := wp_of c52_14.eq_1
@[go_sem] theorem c52_15_wp : type_of% (wp_of c52_15.eq_1) := wp_of c52_15.eq_1
@[go_sem] theorem c52_16_wp : type_of% (wp_of c52_16.eq_1) := wp_of c52_16.eq_1
@[go_sem] theorem c52_17_wp : type_of% (wp_of c52_17.eq_1) := wp_of c52_17.eq_1
@[go_sem] theorem c52_18_wp : type_of% (wp_of c52_18.eq_1) := wp_of c52_18.eq_1
@[go_sem] theorem c52_19_wp : type_of% (wp_of c52_19.eq_1) := wp_of c52_19.eq_1
@[go_sem] theorem c52_20_wp : type_of% (wp_of c52_20.eq_1) := wp_of c52_20.eq_1
@[go_sem] theorem c52_21_wp : type_of% (wp_of c52_21.eq_1) := wp_of c52_21.eq_1
@[go_sem] theorem c52_22_wp : type_of% (wp_of c52_22.eq_1) := wp_of c52_22.eq_1
@[go_sem] theorem c52_23_wp : type_of% (wp_of c52_23.eq_1) := wp_of c52_23.eq_1
@[go_sem] theorem c52_24_wp : type_of% (wp_of c52_24.eq_1) := wp_of c52_24.eq_1
@[go_sem] theorem c52_25_wp : type_of% (wp_of c52_25.eq_1) := wp_of c52_25.eq_1
@[go_sem] theorem c52_26_wp : type_of% (wp_of c52_26.eq_1) := wp_of c52_26.eq_1
@[go_sem] theorem c52_27_wp : type_of% (wp_of c52_27.eq_1) := wp_of c52_27.eq_1
@[go_sem] theorem c52_28_wp : type_of% (wp_of c52_28.eq_1) := wp_of c52_28.eq_1
@[go_sem] theorem c52_29_wp : type_of% (wp_of c52_29.eq_1) := wp_of c52_29.eq_1
@[go_sem] theorem c52_30_wp : type_of% (wp_of c52_30.eq_1) := wp_of c52_30.eq_1
@[go_sem] theorem c52_31_wp : type_of% (wp_of c52_31.eq_1) := wp_of c52_31.eq_1
@[go_sem] theorem c52_32_wp : type_of% (wp_of c52_32.eq_1) := wp_of c52_32.eq_1
@[go_sem] theorem c52_33_wp : type_of% (wp_of c52_33.eq_1) := wp_of c52_33.eq_1
@[go_sem] theorem c52_34_wp : type_of% (wp_of c52_34.eq_1) := wp_of c52_34.eq_1
@[go_sem] theorem c52_35_wp : type_of% (wp_of c52_35.eq_1) := wp_of c52_35.eq_1
@[go_sem] theorem c52_36_wp : type_of% (wp_of c52_36.eq_1) := wp_of c52_36.eq_1
@[go_sem] theorem c52_37_wp : type_of% (wp_of c52_37.eq_1) := wp_of c52_37.eq_1
@[go_sem] theorem c52_38_wp : type_of% (wp_of c52_38.eq_1) := wp_of c52_38.eq_1
@[go_sem] theorem c52_39_wp : type_of% (wp_of c52_39.eq_1) := wp_of c52_39.eq_1
@[go_sem] theorem c52_40_wp : type_of% (wp_of c52_40.eq_1) := wp_of c52_40.eq_1
@[go_sem] theorem c52_41_wp : type_of% (wp_of c52_41.eq_1) := wp_of c52_41.eq_1
@[go_sem] theorem c52_42_wp : type_of% (wp_of c52_42.eq_1) := wp_of c52_42.eq_1
@[go_sem] theorem c52_43_wp : type_of% (wp_of c52_43.eq_1) := wp_of c52_43.eq_1
@[go_sem] theorem c52_44_wp : type_of% (wp_of c52_44.eq_1) := wp_of c52_44.eq_1
@[go_sem] theorem c52_45_wp : type_of% (wp_of c52_45.eq_1) := wp_of c52_45.eq_1
@[go_sem] theorem c52_46_wp : type_of% (wp_of c52_46.eq_1) := wp_of c52_46.eq_1
@[go_sem] theorem c52_47_wp : type_of% (wp_of c52_47.eq_1) := wp_of c52_47.eq_1
@[go_sem] theorem c52_48_wp : type_of% (wp_of c52_48.eq_1) := wp_of c52_48.eq_1
@[go_sem] theorem c52_49_wp : type_of% (wp_of c52_49.eq_1) := wp_of c52_49.eq_1
@[go_sem] theorem c52_50_wp : type_of% (wp_of c52_50.eq_1) := wp_of c52_50.eq_1
@[go_sem] theorem c52_51_wp : type_of% (wp_of c52_51.eq_1) := wp_of c52_51.eq_1
@[go_sem] theorem c52_52_wp : type_of% (wp_of c52_52.eq_1) := wp_of c52_52.eq_1
@[go_sem] theorem c52_53_wp : type_of% (wp_of c52_53.eq_1) := wp_of c52_53.eq_1
@[go_sem] theorem c52_54_wp : type_of% (wp_of c52_54.eq_1) := wp_of c52_54.eq_1
@[go_sem] theorem c52_55_wp : type_of% (wp_of c52_55.eq_1) := wp_of c52_55.eq_1
@[go_sem] theorem c52_56_wp : type_of% (wp_of c52_56.eq_1) := wp_of c52_56.eq_1
@[go_sem] theorem c52_57_wp : type_of% (wp_of c52_57.eq_1) := wp_of c52_57.eq_1
@[go_sem] theorem c52_58_wp : type_of% (wp_of c52_58.eq_1) := wp_of c52_58.eq_1
@[go_sem] theorem c52_59_wp : type_of% (wp_of c52_59.eq_1) := wp_of c52_59.eq_1
@[go_sem] theorem c52_60_wp : type_of% (wp_of c52_60.eq_1) := wp_of c52_60.eq_1
@[go_sem] theorem c52_61_wp : type_of% (wp_of c52_61.eq_1) := wp_of c52_61.eq_1
def c52 : AFn := ⟨58, [.t 2], c52_61⟩
set_option maxRecDepth 100000 in
theorem c52_ok : compF Tryd.prog Tryd.f52 = some c52 := by kernel_rfl
theorem a52 {args : List AV} {σ : ASt} {R : AV → ASt → Prop} (hl : args.length ≤ 58) (h : c52_61.wp Tryd.prog (RetQ [.t 2] R) (init args) σ) : ACalls Tryd.prog 52 args σ R := acalls_of Tryd.func52 c52_ok hl h

/-! 53: tabular/value.Typed -/
def c53_0 : ACode := .ops [
    ⟨(some 2), none, .q (.mv (.v (.str []))), []⟩]
def c53_1 : ACode := .ops [
    ⟨(some 8), none, .q (.mv (.t 0)), []⟩,
    ⟨(some 9), none, .q (.ta 67 (.str []) true (.t 8)), []⟩,
    ⟨(some 7), none, .q (.mv (.t 9)), []⟩,
    ⟨(some 10), none, .q (.ext 0 (.t 7)), []⟩,
    ⟨(some 11), none, .q (.ext 1 (.t 7)), []⟩,
    ⟨(some 3), none, .q (.mv (.t 10)), []⟩,
    ⟨(some 4), none, .q (.mv (.t 11)), []⟩]
def c53_2 : ACode := .ops [
    ⟨(some 12), none, .q (.mv (.t 4)), []⟩,
    ⟨(some 13), none, .q (.un .not (.t 12)), []⟩]
def c53_3 : ACode := .ops [
    ⟨(some 14), none, .q (.mv (.t 0)), []⟩,
    ⟨(some 15), none, .e (.call 54 [(.t 14)]), []⟩,
    ⟨(some 2), none, .q (.mv (.t 15)), []⟩]
def c53_4 : ACode := .seq c53_3 .ret
def c53_5 : ACode := .cond (.t 13) c53_4 .skip
def c53_6 : ACode := .seq c53_2 c53_5
def c53_7 : ACode := .ops [
    ⟨(some 17), none, .q (.mv (.t 3)), []⟩,
    ⟨(some 18), none, .e (.call 52 [(.t 17)]), []⟩,
    ⟨(some 19), none, .q (.ta 67 (.str []) true (.t 18)), []⟩,
    ⟨(some 16), none, .q (.mv (.t 19)), []⟩,
    ⟨(some 20), none, .q (.ext 0 (.t 16)), []⟩,
    ⟨(some 21), none, .q (.ext 1 (.t 16)), []⟩,
    ⟨(some 5), none, .q (.mv (.t 20)), []⟩,
    ⟨(some 6), none, .q (.mv (.t 21)), []⟩]
def c53_8 : ACode := .ops [
    ⟨(some 22), none, .q (.mv (.t 6)), []⟩,
    ⟨(some 23), none, .q (.mv (.t 22)), []⟩,
    ⟨(some 24), (some (23, true)), .q (.mv (.t 5)), []⟩,
    ⟨(some 25), (some (23, true)), .q (.mv (.t 3)), []⟩,
    ⟨(some 26), (some (23, true)), .q (.bin .eql (.t 24) (.t 25)), []⟩,
    ⟨(some 27), none, .q (.pick (.t 23) (.t 26) (.v (.bool false))), []⟩]
def c53_9 : ACode := .ops [
    ⟨(some 28), none, .q (.mv (.t 3)), []⟩,
    ⟨(some 2), none, .q (.mv (.t 28)), []⟩]
def c53_10 : ACode := .seq c53_9 .ret
def c53_11 : ACode := .cond (.t 27) c53_10 .skip
def c53_12 : ACode := .seq c53_8 c53_11
def c53_13 : ACode := .seq c53_7 c53_12
def c53_14 : ACode := .ops [
    ⟨(some 29), none, .q (.mv (.t 3)), []⟩,
    ⟨(some 30), none, .q (.bin .add (.v (.str [39])) (.t 29)), []⟩,
    ⟨(some 2), none, .q (.mv (.t 30)), []⟩]
def c53_15 : ACode := .seq c53_14 .ret
def c53_16 : ACode := .seq c53_13 c53_15
def c53_17 : ACode := .seq c53_6 c53_16
def c53_18 : ACode := .seq c53_1 c53_17
def c53_19 : ACode := .seq c53_0 c53_18
@[go_sem] theorem c53_0_wp : type_of% (wp_of c53_0.eq_1) := wp_of c53_0.eq_1
@[go_sem] theorem c53_1_wp : type_of% (wp_of c53_1.eq_1) := wp_of c53_1.eq_1
@[go_sem] theorem c53_2_wp : type_of% (wp_of c53_2.eq_1) := wp_of c53_2.eq_1
@[go_sem] theorem c53_3_wp : type_of% (wp_of c53_3.eq_1) := wp_of c53_3.eq_1
@[go_sem] theorem c53_4_wp : type_of% (wp_of c53_4.eq_1) := wp_of c53_4.eq_1
@[go_sem] theorem c53_5_wp : type_of% (wp_of c53_5.eq_1) := wp_of c53_5.eq_1
@[go_sem] theorem c53_6_wp : type_of% (wp_of c53_6.eq_1) := wp_of c53_6.eq_1
@[go_sem] theorem c53_7_wp : type_of% (wp_of c53_7.eq_1) := wp_of c53_7.eq_1
@[go_sem] theorem c53_8_wp : type_of% (wp_of c53_8.eq_1) := wp_of c53_8.eq_1
@[go_sem] theorem c53_9_wp : type_of% (wp_of c53_9.eq_1) := wp_of c53_9.eq_1
@[go_sem] theorem c53_10_wp : type_of% (wp_of c53_10.eq_1) := wp_of c53_10.eq_1
@[go_sem] theorem c53_11_wp : type_of% (wp_of c53_11.eq_1) := wp_of c53_11.eq_1
@[go_sem] theorem c53_12_wp : type_of% (wp_of c53_12.eq_1) := wp_of c53_12.eq_1
@[go_sem] theorem c53_13_wp : type_of% (wp_of c53_13.eq_1) := wp_of c53_13.eq_1
@[go_sem] theorem c53_14_wp : type_of% (wp_of c53_14.eq_1) := wp_of c53_14.eq_1
@[go_sem] theorem c53_15_wp : type_of% (wp_of c53_15.eq_1) := wp_of c53_15.eq_1
@[go_sem] theorem c53_16_wp : type_of% (wp_of c53_16.eq_1) := wp_of c53_16.eq_1
@[go_sem] theorem c53_17_wp : type_of% (wp_of c53_17.eq_1) := wp_of c53_17.eq_1
@[go_sem] theorem c53_18_wp : type_of% (wp_of c53_18.eq_1) := wp_of c53_18.eq_1
@[go_sem] theorem c53_19_wp : type_of% (wp_of c53_19.eq_1) := wp_of c53_19.eq_1
def c53 : AFn := ⟨31, [.t 2], c53_19⟩
set_option maxRecDepth 100000 in
theorem c53_ok : compF Tryd.prog Tryd.f53 = some c53 := by kernel_rfl
theorem a53 {args : List AV} {σ : ASt} {R : AV → ASt → Prop} (hl : args.length ≤ 31) (h : c53_19.wp Tryd.prog (RetQ [.t 2] R) (init args) σ) : ACalls Tryd.prog 53 args σ R := acalls_of Tryd.func53 c53_ok hl h

/-! 54: tabular/value.Show -/
def c54_0 : ACode := .ops [
    ⟨(some 2), none, .q (.mv (.v (.str []))), []⟩]
def c54_1 : ACode := .ops [
    ⟨(some 8), none, .q (.mv (.t 0)), []⟩,
    ⟨(some 9), none, .e (.call 19 [(.t 8)]), []⟩,
    ⟨(some 7), none, .q (.mv (.t 9)), []⟩,
    ⟨(some 10), none, .q (.ext 0 (.t 7)), []⟩,
    ⟨(some 11), none, .q (.ext 1 (.t 7)), []⟩,
    ⟨(some 3), none, .q (.mv (.t 10)), []⟩,
    ⟨(some 4), none, .q (.mv (.t 11)), []⟩]
def c54_2 : ACode := .ops [
    ⟨(some 12), none, .q (.mv (.t 4)), []⟩]
def c54_3 : ACode := .ops [
    ⟨(some 13), none, .e (.call 60 []), []⟩,
    ⟨(some 14), none, .q (.mv (.t 3)), []⟩,
    ⟨(some 15), none, .q (.bin .sub (.t 14) (.v (.int .i64 1))), []⟩,
    ⟨(some 16), none, .q (.ia 1 (.t 13) (.t 15)), []⟩,
    ⟨(some 17), none, .q (.ld none (.t 16)), []⟩,
    ⟨(some 2), none, .q (.mv (.t 17)), []⟩]
def c54_4 : ACode := .seq c54_3 .ret
def c54_5 : ACode := .cond (.t 12) c54_4 .skip
def c54_6 : ACode := .seq c54_2 c54_5
def c54_7 : ACode := .seq c54_1 c54_6
def c54_8 : ACode := .ops [
    ⟨(some 19), none, .q (.mv (.t 0)), []⟩,
    ⟨(some 20), none, .e (.call 82 [(.t 19)]), []⟩,
    ⟨(some 18), none, .q (.mv (.t 20)), []⟩,
    ⟨(some 21), none, .q (.ext 0 (.t 18)), []⟩,
    ⟨(some 22), none, .q (.ext 1 (.t 18)), []⟩,
    ⟨(some 5), none, .q (.mv (.t 21)), []⟩,
    ⟨(some 6), none, .q (.mv (.t 22)), []⟩]
def c54_9 : ACode := .ops [
    ⟨(some 23), none, .q (.mv (.t 5)), []⟩,
    ⟨(some 2), none, .q (.mv (.t 23)), []⟩]
def c54_10 : ACode := .seq c54_9 .ret
def c54_11 : ACode := .seq c54_8 c54_10
def c54_12 : ACode := .seq c54_7 c54_11
def c54_13 : ACode := .seq c54_0 c54_12
@[go_sem] theorem c54_0_wp : type_of% (wp_of c54_0.eq_1) := wp_of c54_0.eq_1
@[go_sem] theorem c54_1_wp : type_of% (wp_of c54_1.eq_1) := wp_of c54_1.eq_1
@[go_sem] theorem c54_2_wp : type_of% (wp_of c54_2.eq_1) := wp_of c54_2.eq_1
@[go_sem] theorem c54_3_wp : type_of% (wp_of c54_3.eq_1) := wp_of c54_3.eq_1
@[go_sem] theorem c54_4_wp : type_of% (wp_of c54_4.eq_1) := wp_of c54_4.eq_1
@[go_sem] theorem c54_5_wp : type_of% (wp_of c54_5.eq_1) := wp_of c54_5.eq_1
@[go_sem] theorem c54_6_wp : type_of% (wp_of c54_6.eq_1) := wp_of c54_6.eq_1
@[go_sem] theorem c54_7_wp : type_of% (wp_of c54_7.eq_1) := wp_of c54_7.eq_1
@[go_sem] theorem c54_8_wp : type_of% (wp_of c54_8.eq_1) := wp_of c54_8.eq_1
@[go_sem] theorem c54_9_wp : type_of% (wp_of c54_9.eq_1) := wp_of c54_9.eq_1
@[go_sem] theorem c54_10_wp : type_of% (wp_of c54_10.eq_1) := wp_of c54_10.eq_1
@[go_sem] theorem c54_11_wp : type_of% (wp_of c54_11.eq_1) := wp_of c54_11.eq_1
@[go_sem] theorem c54_12_wp : type_of% (wp_of c54_12.eq_1) := wp_of c54_12.eq_1
@[go_sem] theorem c54_13_wp : type_of% (wp_of c54_13.eq_1) := wp_of c54_13.eq_1
def c54 : AFn := ⟨24, [.t 2], c54_13⟩
set_option maxRecDepth 100000 in
theorem c54_ok : compF Tryd.prog Tryd.f54 = some c54 := by kernel_rfl
theorem a54 {args : List AV} {σ : ASt} {R : AV → ASt → Prop} (hl : args.length ≤ 24) (h : c54_13.wp Tryd.prog (RetQ [.t 2] R) (init args) σ) : ACalls Tryd.prog 54 args σ R := acalls_of Tryd.func54 c54_ok hl h

end Go.A
