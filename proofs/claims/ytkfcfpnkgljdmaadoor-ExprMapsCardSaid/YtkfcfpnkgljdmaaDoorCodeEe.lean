/- The functions, compiled: by program (wip/gencode.py). -/
import Derived.Test.YtkfcfpnkgljdmaaDoorBk
import Derived.Test.YtkfcfpnkgljdmaaDoorProg
import Derived.KernelRfl
namespace Go.A
open Go.Proofs

/-! 3: tabular/tabularlaw12.ExprChains -/
def c3_0 : ACode := .ops [
    ⟨(some 4), none, .q (.mv (.v (.bool false))), []⟩]
def c3_1 : ACode := .ops [
    ⟨(some 11), none, .q (.mv (.t 0)), []⟩,
    ⟨(some 12), none, .q (.bin .lss (.t 11) (.v (.int .i64 0))), []⟩,
    ⟨(some 13), none, .q (.mv (.t 12)), []⟩,
    ⟨(some 14), (some (13, false)), .q (.mv (.t 0)), []⟩,
    ⟨(some 15), (some (13, false)), .q (.bin .gtr (.t 14) (.v (.int .i64 11))), []⟩,
    ⟨(some 16), none, .q (.pick (.t 13) (.v (.bool true)) (.t 15)), []⟩,
    ⟨(some 17), none, .q (.mv (.t 16)), []⟩,
    ⟨(some 18), (some (17, false)), .q (.mv (.t 1)), []⟩,
    ⟨(some 19), (some (17, false)), .q (.bin .lss (.t 18) (.v (.int .i64 1))), []⟩,
    ⟨(some 20), none, .q (.pick (.t 17) (.v (.bool true)) (.t 19)), []⟩,
    ⟨(some 21), none, .q (.mv (.t 20)), []⟩,
    ⟨(some 22), (some (21, false)), .q (.mv (.t 1)), []⟩,
    ⟨(some 23), (some (21, false)), .q (.bin .gtr (.t 22) (.v (.int .i64 200))), []⟩,
    ⟨(some 24), none, .q (.pick (.t 21) (.v (.bool true)) (.t 23)), []⟩]
def c3_2 : ACode := .ops [
    ⟨(some 25), none, .e (.call 5 []), []⟩,
    ⟨(some 4), none, .q (.mv (.t 25)), []⟩]
def c3_3 : ACode := .seq c3_2 .ret
def c3_4 : ACode := .cond (.t 24) c3_3 .skip
def c3_5 : ACode := .seq c3_1 c3_4
def c3_6 : ACode := .ops [
    ⟨(some 26), none, .q (.build [(.int .i64 0), (.int .i64 0), (.str []), (.int .i64 0), (.int .i64 0), (.bool false), (.bool false), (.int .i64 0), (.int .i64 0), (.bool false), (.bool false), (.sl .full [])] [(0, 1, (.v (.int .i64 1))), (1, 1, (.v (.int .i64 10000)))]), []⟩,
    ⟨(some 5), none, .e (.alloc [(.int .i64 0), (.int .i64 0), (.str []), (.int .i64 0), (.int .i64 0), (.bool false), (.bool false), (.int .i64 0), (.int .i64 0), (.bool false), (.bool false), (.sl .full [])]), []⟩,
    ⟨none, none, .e (.store 12 (.t 5) (.t 26)), []⟩]
def c3_7 : ACode := .ops [
    ⟨(some 27), none, .q (.ld (some 12) (.t 5)), []⟩,
    ⟨(some 28), none, .q (.ld (some 12) (.t 5)), []⟩,
    ⟨(some 6), none, .e (.alloc [(.int .i64 0), (.int .i64 0), (.str []), (.int .i64 0), (.int .i64 0), (.bool false), (.bool false), (.int .i64 0), (.int .i64 0), (.bool false), (.bool false), (.sl .full [])]), []⟩,
    ⟨(some 7), none, .e (.alloc [(.int .i64 0), (.int .i64 0), (.str []), (.int .i64 0), (.int .i64 0), (.bool false), (.bool false), (.int .i64 0), (.int .i64 0), (.bool false), (.bool false), (.sl .full [])]), []⟩,
    ⟨none, none, .e (.store 12 (.t 6) (.t 27)), [⟨none, .ld (some 12) (.t 5), 28⟩]⟩,
    ⟨none, none, .e (.store 12 (.t 7) (.t 28)), []⟩]
def c3_8 : ACode := .ops [
    ⟨(some 8), none, .q (.mv (.v (.str [49]))), []⟩,
    ⟨(some 9), none, .q (.mv (.v (.str [49]))), []⟩]
def c3_9 : ACode := .ops [
    ⟨(some 10), none, .q (.mv (.v (.int .i64 0))), []⟩]
def c3_10 : ACode := .ops [
    ⟨(some 29), none, .q (.mv (.t 10)), []⟩,
    ⟨(some 30), none, .q (.mv (.t 1)), []⟩,
    ⟨(some 31), none, .q (.bin .lss (.t 29) (.t 30)), []⟩]
def c3_11 : ACode := .cond (.t 31) .skip (.exit 0)
def c3_12 : ACode := .seq c3_10 c3_11
def c3_13 : ACode := .ops [
    ⟨(some 34), none, .q (.mv (.t 0)), []⟩,
    ⟨(some 35), none, .q (.bin .add (.v (.int .i64 10)) (.t 34)), []⟩,
    ⟨(some 36), none, .q (.ld (some 12) (.t 6)), []⟩,
    ⟨(some 37), none, .q (.ld (some 12) (.t 5)), []⟩,
    ⟨(some 38), none, .q (.bsl 12 [(.t 36), (.t 37)]), []⟩,
    ⟨(some 39), none, .q (.build [(.int .i64 0), (.int .i64 0), (.str []), (.int .i64 0), (.int .i64 0), (.bool false), (.bool false), (.int .i64 0), (.int .i64 0), (.bool false), (.bool false), (.sl .full [])] [(0, 1, (.t 35)), (11, 1, (.t 38))]), []⟩,
    ⟨none, none, .e (.store 12 (.t 6) (.t 39)), []⟩]
def c3_14 : ACode := .ops [
    ⟨(some 40), none, .q (.mv (.t 0)), []⟩,
    ⟨(some 41), none, .q (.bin .add (.v (.int .i64 10)) (.t 40)), []⟩,
    ⟨(some 42), none, .q (.ld (some 12) (.t 5)), []⟩,
    ⟨(some 43), none, .q (.ld (some 12) (.t 7)), []⟩,
    ⟨(some 44), none, .q (.bsl 12 [(.t 42), (.t 43)]), []⟩,
    ⟨(some 45), none, .q (.build [(.int .i64 0), (.int .i64 0), (.str []), (.int .i64 0), (.int .i64 0), (.bool false), (.bool false), (.int .i64 0), (.int .i64 0), (.bool false), (.bool false), (.sl .full [])] [(0, 1, (.t 41)), (11, 1, (.t 44))]), []⟩,
    ⟨none, none, .e (.store 12 (.t 7) (.t 45)), []⟩]
def c3_15 : ACode := .ops [
    ⟨(some 46), none, .q (.mv (.t 8)), []⟩,
    ⟨(some 47), none, .e (.call 6 []), []⟩,
    ⟨(some 48), none, .q (.mv (.t 0)), []⟩,
    ⟨(some 49), none, .q (.ia 1 (.t 47) (.t 48)), []⟩,
    ⟨(some 50), none, .q (.ld none (.t 49)), []⟩,
    ⟨(some 51), none, .q (.bin .add (.t 50) (.v (.str [49]))), []⟩,
    ⟨(some 52), none, .q (.bin .add (.t 46) (.t 51)), []⟩,
    ⟨(some 8), none, .q (.mv (.t 52)), []⟩]
def c3_16 : ACode := .ops [
    ⟨(some 53), none, .q (.mv (.t 10)), []⟩,
    ⟨(some 54), none, .q (.bin .eql (.t 53) (.v (.int .i64 0))), []⟩]
def c3_17 : ACode := .ops [
    ⟨(some 55), none, .e (.call 6 []), []⟩,
    ⟨(some 56), none, .q (.mv (.t 0)), []⟩,
    ⟨(some 57), none, .q (.ia 1 (.t 55) (.t 56)), []⟩,
    ⟨(some 58), none, .q (.ld none (.t 57)), []⟩,
    ⟨(some 59), none, .q (.bin .add (.v (.str [49])) (.t 58)), []⟩,
    ⟨(some 60), none, .q (.bin .add (.t 59) (.v (.str [49]))), []⟩,
    ⟨(some 9), none, .q (.mv (.t 60)), []⟩]
def c3_18 : ACode := .ops [
    ⟨(some 61), none, .e (.call 6 []), []⟩,
    ⟨(some 62), none, .q (.mv (.t 0)), []⟩,
    ⟨(some 63), none, .q (.ia 1 (.t 61) (.t 62)), []⟩,
    ⟨(some 64), none, .q (.ld none (.t 63)), []⟩,
    ⟨(some 65), none, .q (.bin .add (.v (.str [49])) (.t 64)), []⟩,
    ⟨(some 66), none, .q (.bin .add (.t 65) (.v (.str [40]))), []⟩,
    ⟨(some 67), none, .q (.mv (.t 9)), []⟩,
    ⟨(some 68), none, .q (.bin .add (.t 66) (.t 67)), []⟩,
    ⟨(some 69), none, .q (.bin .add (.t 68) (.v (.str [41]))), []⟩,
    ⟨(some 9), none, .q (.mv (.t 69)), []⟩]
def c3_19 : ACode := .cond (.t 54) c3_17 c3_18
def c3_20 : ACode := .seq c3_16 c3_19
def c3_21 : ACode := .seq c3_15 c3_20
def c3_22 : ACode := .seq c3_14 c3_21
def c3_23 : ACode := .seq c3_13 c3_22
def c3_24 : ACode := .block 1 c3_23
def c3_25 : ACode := .ops [
    ⟨(some 32), none, .q (.mv (.t 10)), []⟩,
    ⟨(some 33), none, .q (.bin .add (.t 32) (.v (.int .i64 1))), []⟩,
    ⟨(some 10), none, .q (.mv (.t 33)), []⟩]
def c3_26 : ACode := .seq c3_24 c3_25
def c3_27 : ACode := .seq c3_12 c3_26
def c3_28 : ACode := .loop c3_27
def c3_29 : ACode := .block 0 c3_28
def c3_30 : ACode := .seq c3_9 c3_29
def c3_31 : ACode := .ops [
    ⟨(some 70), none, .e (.call 5 []), []⟩,
    ⟨(some 71), none, .q (.mv (.t 70)), []⟩,
    ⟨(some 72), (some (71, true)), .q (.ld (some 12) (.t 6)), []⟩,
    ⟨(some 73), (some (71, true)), .e (.call 7 [(.t 72)]), []⟩,
    ⟨(some 74), (some (71, true)), .q (.mv (.t 8)), []⟩,
    ⟨(some 75), (some (71, true)), .q (.bin .eql (.t 73) (.t 74)), []⟩,
    ⟨(some 76), none, .q (.pick (.t 71) (.t 75) (.v (.bool false))), []⟩,
    ⟨(some 77), none, .q (.mv (.t 76)), []⟩,
    ⟨(some 78), (some (77, true)), .q (.ld (some 12) (.t 7)), []⟩,
    ⟨(some 79), (some (77, true)), .e (.call 7 [(.t 78)]), []⟩,
    ⟨(some 80), (some (77, true)), .q (.mv (.t 9)), []⟩,
    ⟨(some 81), (some (77, true)), .q (.bin .eql (.t 79) (.t 80)), []⟩,
    ⟨(some 82), none, .q (.pick (.t 77) (.t 81) (.v (.bool false))), []⟩,
    ⟨(some 83), none, .q (.mv (.t 82)), []⟩,
    ⟨(some 84), (some (83, true)), .q (.ld (some 12) (.t 6)), []⟩,
    ⟨(some 85), (some (83, true)), .e (.call 8 [(.t 84)]), []⟩,
    ⟨(some 86), (some (83, true)), .q (.mv (.t 1)), []⟩,
    ⟨(some 87), (some (83, true)), .q (.bin .add (.t 86) (.v (.int .i64 1))), []⟩,
    ⟨(some 88), (some (83, true)), .q (.bin .eql (.t 85) (.t 87)), []⟩,
    ⟨(some 89), none, .q (.pick (.t 83) (.t 88) (.v (.bool false))), []⟩,
    ⟨(some 4), none, .q (.mv (.t 89)), []⟩]
def c3_32 : ACode := .seq c3_31 .ret
def c3_33 : ACode := .seq c3_30 c3_32
def c3_34 : ACode := .seq c3_8 c3_33
def c3_35 : ACode := .seq c3_7 c3_34
def c3_36 : ACode := .seq c3_6 c3_35
def c3_37 : ACode := .seq c3_5 c3_36
def c3_38 : ACode := .seq c3_0 c3_37
@[go_sem] theorem c3_0_wp : type_of% (wp_of c3_0.eq_1) := wp_of c3_0.eq_1
@[go_sem] theorem c3_1_wp : type_of% (wp_of c3_1.eq_1) := wp_of c3_1.eq_1
@[go_sem] theorem c3_2_wp : type_of% (wp_of c3_2.eq_1) := wp_of c3_2.eq_1
@[go_sem] theorem c3_3_wp : type_of% (wp_of c3_3.eq_1) := wp_of c3_3.eq_1
@[go_sem] theorem c3_4_wp : type_of% (wp_of c3_4.eq_1) := wp_of c3_4.eq_1
@[go_sem] theorem c3_5_wp : type_of% (wp_of c3_5.eq_1) := wp_of c3_5.eq_1
@[go_sem] theorem c3_6_wp : type_of% (wp_of c3_6.eq_1) := wp_of c3_6.eq_1
@[go_sem] theorem c3_7_wp : type_of% (wp_of c3_7.eq_1) := wp_of c3_7.eq_1
@[go_sem] theorem c3_8_wp : type_of% (wp_of c3_8.eq_1) := wp_of c3_8.eq_1
@[go_sem] theorem c3_9_wp : type_of% (wp_of c3_9.eq_1) := wp_of c3_9.eq_1
@[go_sem] theorem c3_10_wp : type_of% (wp_of c3_10.eq_1) := wp_of c3_10.eq_1
@[go_sem] theorem c3_11_wp : type_of% (wp_of c3_11.eq_1) := wp_of c3_11.eq_1
@[go_sem] theorem c3_12_wp : type_of% (wp_of c3_12.eq_1) := wp_of c3_12.eq_1
@[go_sem] theorem c3_13_wp : type_of% (wp_of c3_13.eq_1) := wp_of c3_13.eq_1
@[go_sem] theorem c3_14_wp : type_of% (wp_of c3_14.eq_1) := wp_of c3_14.eq_1
@[go_sem] theorem c3_15_wp : type_of% (wp_of c3_15.eq_1) := wp_of c3_15.eq_1
@[go_sem] theorem c3_16_wp : type_of% (wp_of c3_16.eq_1) := wp_of c3_16.eq_1
@[go_sem] theorem c3_17_wp : type_of% (wp_of c3_17.eq_1) := wp_of c3_17.eq_1
@[go_sem] theorem c3_18_wp : type_of% (wp_of c3_18.eq_1) := wp_of c3_18.eq_1
@[go_sem] theorem c3_19_wp : type_of% (wp_of c3_19.eq_1) := wp_of c3_19.eq_1
@[go_sem] theorem c3_20_wp : type_of% (wp_of c3_20.eq_1) := wp_of c3_20.eq_1
@[go_sem] theorem c3_21_wp : type_of% (wp_of c3_21.eq_1) := wp_of c3_21.eq_1
@[go_sem] theorem c3_22_wp : type_of% (wp_of c3_22.eq_1) := wp_of c3_22.eq_1
@[go_sem] theorem c3_23_wp : type_of% (wp_of c3_23.eq_1) := wp_of c3_23.eq_1
@[go_sem] theorem c3_24_wp : type_of% (wp_of c3_24.eq_1) := wp_of c3_24.eq_1
@[go_sem] theorem c3_25_wp : type_of% (wp_of c3_25.eq_1) := wp_of c3_25.eq_1
@[go_sem] theorem c3_26_wp : type_of% (wp_of c3_26.eq_1) := wp_of c3_26.eq_1
@[go_sem] theorem c3_27_wp : type_of% (wp_of c3_27.eq_1) := wp_of c3_27.eq_1
@[go_sem] theorem c3_28_wp : type_of% (wp_of c3_28.eq_1) := wp_of c3_28.eq_1
@[go_sem] theorem c3_29_wp : type_of% (wp_of c3_29.eq_1) := wp_of c3_29.eq_1
@[go_sem] theorem c3_30_wp : type_of% (wp_of c3_30.eq_1) := wp_of c3_30.eq_1
@[go_sem] theorem c3_31_wp : type_of% (wp_of c3_31.eq_1) := wp_of c3_31.eq_1
@[go_sem] theorem c3_32_wp : type_of% (wp_of c3_32.eq_1) := wp_of c3_32.eq_1
@[go_sem] theorem c3_33_wp : type_of% (wp_of c3_33.eq_1) := wp_of c3_33.eq_1
@[go_sem] theorem c3_34_wp : type_of% (wp_of c3_34.eq_1) := wp_of c3_34.eq_1
@[go_sem] theorem c3_35_wp : type_of% (wp_of c3_35.eq_1) := wp_of c3_35.eq_1
@[go_sem] theorem c3_36_wp : type_of% (wp_of c3_36.eq_1) := wp_of c3_36.eq_1
@[go_sem] theorem c3_37_wp : type_of% (wp_of c3_37.eq_1) := wp_of c3_37.eq_1
@[go_sem] theorem c3_38_wp : type_of% (wp_of c3_38.eq_1) := wp_of c3_38.eq_1
def c3 : AFn := ⟨90, [.t 4], c3_38⟩
set_option maxRecDepth 100000 in
theorem c3_ok : compF Tryd.prog Tryd.f3 = some c3 := by kernel_rfl
theorem a3 {args : List AV} {σ : ASt} {R : AV → ASt → Prop} (hl : args.length ≤ 90) (h : c3_38.wp Tryd.prog (RetQ [.t 4] R) (init args) σ) : ACalls Tryd.prog 3 args σ R := acalls_of Tryd.func3 c3_ok hl h

/-! 5: tabular/tabularlaw12.awake -/
def c5_0 : ACode := .ops [
    ⟨(some 0), none, .q (.mv (.v (.bool false))), []⟩]
def c5_1 : ACode := .ops [
    ⟨(some 6), none, .q (.build [(.int .i64 0), (.int .i64 0), (.str []), (.int .i64 0), (.int .i64 0), (.bool false), (.bool false), (.int .i64 0), (.int .i64 0), (.bool false), (.bool false), (.sl .full [])] [(0, 1, (.v (.int .i64 1))), (1, 1, (.v (.int .i64 10000)))]), []⟩,
    ⟨(some 1), none, .e (.alloc [(.int .i64 0), (.int .i64 0), (.str []), (.int .i64 0), (.int .i64 0), (.bool false), (.bool false), (.int .i64 0), (.int .i64 0), (.bool false), (.bool false), (.sl .full [])]), []⟩,
    ⟨none, none, .e (.store 12 (.t 1) (.t 6)), []⟩]
def c5_2 : ACode := .ops [
    ⟨(some 7), none, .q (.build [(.int .i64 0), (.int .i64 0), (.str []), (.int .i64 0), (.int .i64 0), (.bool false), (.bool false), (.int .i64 0), (.int .i64 0), (.bool false), (.bool false), (.sl .full [])] [(0, 1, (.v (.int .i64 1))), (1, 1, (.v (.int .i64 20000)))]), []⟩,
    ⟨(some 2), none, .e (.alloc [(.int .i64 0), (.int .i64 0), (.str []), (.int .i64 0), (.int .i64 0), (.bool false), (.bool false), (.int .i64 0), (.int .i64 0), (.bool false), (.bool false), (.sl .full [])]), []⟩,
    ⟨none, none, .e (.store 12 (.t 2) (.t 7)), []⟩]
def c5_3 : ACode := .ops [
    ⟨(some 8), none, .q (.ld (some 12) (.t 1)), []⟩,
    ⟨(some 9), none, .q (.ld (some 12) (.t 2)), []⟩,
    ⟨(some 10), none, .q (.bsl 12 [(.t 8), (.t 9)]), []⟩,
    ⟨(some 11), none, .q (.build [(.int .i64 0), (.int .i64 0), (.str []), (.int .i64 0), (.int .i64 0), (.bool false), (.bool false), (.int .i64 0), (.int .i64 0), (.bool false), (.bool false), (.sl .full [])] [(0, 1, (.v (.int .i64 11))), (11, 1, (.t 10))]), []⟩,
    ⟨(some 3), none, .e (.alloc [(.int .i64 0), (.int .i64 0), (.str []), (.int .i64 0), (.int .i64 0), (.bool false), (.bool false), (.int .i64 0), (.int .i64 0), (.bool false), (.bool false), (.sl .full [])]), []⟩,
    ⟨none, none, .e (.store 12 (.t 3) (.t 11)), []⟩]
def c5_4 : ACode := .ops [
    ⟨(some 12), none, .q (.ld (some 12) (.t 3)), []⟩,
    ⟨(some 13), none, .q (.ld (some 12) (.t 1)), []⟩,
    ⟨(some 14), none, .q (.bsl 12 [(.t 12), (.t 13)]), []⟩,
    ⟨(some 15), none, .q (.build [(.int .i64 0), (.int .i64 0), (.str []), (.int .i64 0), (.int .i64 0), (.bool false), (.bool false), (.int .i64 0), (.int .i64 0), (.bool false), (.bool false), (.sl .full [])] [(0, 1, (.v (.int .i64 11))), (11, 1, (.t 14))]), []⟩,
    ⟨(some 4), none, .e (.alloc [(.int .i64 0), (.int .i64 0), (.str []), (.int .i64 0), (.int .i64 0), (.bool false), (.bool false), (.int .i64 0), (.int .i64 0), (.bool false), (.bool false), (.sl .full [])]), []⟩,
    ⟨none, none, .e (.store 12 (.t 4) (.t 15)), []⟩]
def c5_5 : ACode := .ops [
    ⟨(some 16), none, .q (.ld (some 12) (.t 1)), []⟩,
    ⟨(some 17), none, .q (.ld (some 12) (.t 3)), []⟩,
    ⟨(some 18), none, .q (.bsl 12 [(.t 16), (.t 17)]), []⟩,
    ⟨(some 19), none, .q (.build [(.int .i64 0), (.int .i64 0), (.str []), (.int .i64 0), (.int .i64 0), (.bool false), (.bool false), (.int .i64 0), (.int .i64 0), (.bool false), (.bool false), (.sl .full [])] [(0, 1, (.v (.int .i64 11))), (11, 1, (.t 18))]), []⟩,
    ⟨(some 5), none, .e (.alloc [(.int .i64 0), (.int .i64 0), (.str []), (.int .i64 0), (.int .i64 0), (.bool false), (.bool false), (.int .i64 0), (.int .i64 0), (.bool false), (.bool false), (.sl .full [])]), []⟩,
    ⟨none, none, .e (.store 12 (.t 5) (.t 19)), []⟩]
def c5_6 : ACode := .ops [
    ⟨(some 20), none, .q (.ld (some 12) (.t 4)), []⟩,
    ⟨(some 21), none, .e (.call 7 [(.t 20)]), []⟩,
    ⟨(some 22), none, .q (.bin .eql (.t 21) (.v (.str [49, 45, 50, 45, 49]))), []⟩,
    ⟨(some 23), none, .q (.mv (.t 22)), []⟩,
    ⟨(some 24), (some (23, true)), .q (.ld (some 12) (.t 5)), []⟩,
    ⟨(some 25), (some (23, true)), .e (.call 7 [(.t 24)]), []⟩,
    ⟨(some 26), (some (23, true)), .q (.bin .eql (.t 25) (.v (.str [49, 45, 40, 49, 45, 50, 41]))), []⟩,
    ⟨(some 27), none, .q (.pick (.t 23) (.t 26) (.v (.bool false))), []⟩,
    ⟨(some 28), none, .q (.mv (.t 27)), []⟩,
    ⟨(some 29), (some (28, true)), .q (.ld (some 12) (.t 4)), []⟩,
    ⟨(some 30), (some (28, true)), .e (.call 17 [(.t 29)]), []⟩,
    ⟨(some 31), (some (28, true)), .q (.bin .eql (.t 30) (.v (.int .i64 5))), []⟩,
    ⟨(some 32), none, .q (.pick (.t 28) (.t 31) (.v (.bool false))), []⟩,
    ⟨(some 33), none, .q (.mv (.t 32)), []⟩,
    ⟨(some 34), (some (33, true)), .q (.ld (some 12) (.t 4)), []⟩,
    ⟨(some 35), (some (33, true)), .e (.call 8 [(.t 34)]), []⟩,
    ⟨(some 36), (some (33, true)), .q (.bin .eql (.t 35) (.v (.int .i64 3))), []⟩,
    ⟨(some 37), none, .q (.pick (.t 33) (.t 36) (.v (.bool false))), []⟩,
    ⟨(some 0), none, .q (.mv (.t 37)), []⟩]
def c5_7 : ACode := .seq c5_6 .ret
def c5_8 : ACode := .seq c5_5 c5_7
def c5_9 : ACode := .seq c5_4 c5_8
def c5_10 : ACode := .seq c5_3 c5_9
def c5_11 : ACode := .seq c5_2 c5_10
def c5_12 : ACode := .seq c5_1 c5_11
def c5_13 : ACode := .seq c5_0 c5_12
@[go_sem] theorem c5_0_wp : type_of% (wp_of c5_0.eq_1) := wp_of c5_0.eq_1
@[go_sem] theorem c5_1_wp : type_of% (wp_of c5_1.eq_1) := wp_of c5_1.eq_1
@[go_sem] theorem c5_2_wp : type_of% (wp_of c5_2.eq_1) := wp_of c5_2.eq_1
@[go_sem] theorem c5_3_wp : type_of% (wp_of c5_3.eq_1) := wp_of c5_3.eq_1
@[go_sem] theorem c5_4_wp : type_of% (wp_of c5_4.eq_1) := wp_of c5_4.eq_1
@[go_sem] theorem c5_5_wp : type_of% (wp_of c5_5.eq_1) := wp_of c5_5.eq_1
@[go_sem] theorem c5_6_wp : type_of% (wp_of c5_6.eq_1) := wp_of c5_6.eq_1
@[go_sem] theorem c5_7_wp : type_of% (wp_of c5_7.eq_1) := wp_of c5_7.eq_1
@[go_sem] theorem c5_8_wp : type_of% (wp_of c5_8.eq_1) := wp_of c5_8.eq_1
@[go_sem] theorem c5_9_wp : type_of% (wp_of c5_9.eq_1) := wp_of c5_9.eq_1
@[go_sem] theorem c5_10_wp : type_of% (wp_of c5_10.eq_1) := wp_of c5_10.eq_1
@[go_sem] theorem c5_11_wp : type_of% (wp_of c5_11.eq_1) := wp_of c5_11.eq_1
@[go_sem] theorem c5_12_wp : type_of% (wp_of c5_12.eq_1) := wp_of c5_12.eq_1
@[go_sem] theorem c5_13_wp : type_of% (wp_of c5_13.eq_1) := wp_of c5_13.eq_1
def c5 : AFn := ⟨38, [.t 0], c5_13⟩
set_option maxRecDepth 100000 in
theorem c5_ok : compF Tryd.prog Tryd.f5 = some c5 := by kernel_rfl
theorem a5 {args : List AV} {σ : ASt} {R : AV → ASt → Prop} (hl : args.length ≤ 38) (h : c5_13.wp Tryd.prog (RetQ [.t 0] R) (init args) σ) : ACalls Tryd.prog 5 args σ R := acalls_of Tryd.func5 c5_ok hl h

/-! 6: tabular/tabularref12.Signs -/
def c6_0 : ACode := .ops [
    ⟨(some 0), none, .q (.mv (.v (.sl .full []))), []⟩]
def c6_1 : ACode := .ops [
    ⟨(some 1), none, .q (.bsl 1 [(.v (.str [43])), (.v (.str [45])), (.v (.str [42])), (.v (.str [47])), (.v (.str [94])), (.v (.str [38])), (.v (.str [61])), (.v (.str [60, 62])), (.v (.str [60])), (.v (.str [60, 61])), (.v (.str [62])), (.v (.str [62, 61]))]), []⟩,
    ⟨(some 0), none, .q (.mv (.t 1)), []⟩]
def c6_2 : ACode := .seq c6_1 .ret
def c6_3 : ACode := .seq c6_0 c6_2
@[go_sem] theorem c6_0_wp : type_of% (wp_of c6_0.eq_1) := wp_of c6_0.eq_1
@[go_sem] theorem c6_1_wp : type_of% (wp_of c6_1.eq_1) := wp_of c6_1.eq_1
@[go_sem] theorem c6_2_wp : type_of% (wp_of c6_2.eq_1) := wp_of c6_2.eq_1
@[go_sem] theorem c6_3_wp : type_of% (wp_of c6_3.eq_1) := wp_of c6_3.eq_1
def c6 : AFn := ⟨2, [.t 0], c6_3⟩
set_option maxRecDepth 100000 in
theorem c6_ok : compF Tryd.prog Tryd.f6 = some c6 := by kernel_rfl
theorem a6 {args : List AV} {σ : ASt} {R : AV → ASt → Prop} (hl : args.length ≤ 2) (h : c6_3.wp Tryd.prog (RetQ [.t 0] R) (init args) σ) : ACalls Tryd.prog 6 args σ R := acalls_of Tryd.func6 c6_ok hl h

/-! 7: tabular/expr.Print -/
def c7_0 : ACode := .ops [
    ⟨(some 1), none, .e (.box (.t 0)), []⟩,
    ⟨(some 2), none, .q (.mv (.v (.str []))), []⟩]
def c7_1 : ACode := .ops [
    ⟨(some 3), none, .e (.allocT 49), []⟩]
def c7_2 : ACode := .ops [
    ⟨(some 4), none, .q (.ld (some 12) (.t 1)), []⟩,
    ⟨(some 5), none, .e (.call 18 [(.t 3), (.t 4)]), []⟩]
def c7_3 : ACode := .ops [
    ⟨(some 6), none, .e (.call 19 [(.t 3)]), []⟩,
    ⟨(some 2), none, .q (.mv (.t 6)), []⟩]
def c7_4 : ACode := .seq c7_3 .ret
def c7_5 : ACode := .seq c7_2 c7_4
def c7_6 : ACode := .seq c7_1 c7_5
def c7_7 : ACode := .seq c7_0 c7_6
@[go_sem] theorem c7_0_wp : type_of% (wp_of c7_0.eq_1) := wp_of c7_0.eq_1
@[go_sem] theorem c7_1_wp : type_of% (wp_of c7_1.eq_1) := wp_of c7_1.eq_1
@[go_sem] theorem c7_2_wp : type_of% (wp_of c7_2.eq_1) := wp_of c7_2.eq_1
@[go_sem] theorem c7_3_wp : type_of% (wp_of c7_3.eq_1) := wp_of c7_3.eq_1
@[go_sem] theorem c7_4_wp : type_of% (wp_of c7_4.eq_1) := wp_of c7_4.eq_1
@[go_sem] theorem c7_5_wp : type_of% (wp_of c7_5.eq_1) := wp_of c7_5.eq_1
@[go_sem] theorem c7_6_wp : type_of% (wp_of c7_6.eq_1) := wp_of c7_6.eq_1
@[go_sem] theorem c7_7_wp : type_of% (wp_of c7_7.eq_1) := wp_of c7_7.eq_1
def c7 : AFn := ⟨7, [.t 2], c7_7⟩
set_option maxRecDepth 100000 in
theorem c7_ok : compF Tryd.prog Tryd.f7 = some c7 := by kernel_rfl
theorem a7 {args : List AV} {σ : ASt} {R : AV → ASt → Prop} (hl : args.length ≤ 7) (h : c7_7.wp Tryd.prog (RetQ [.t 2] R) (init args) σ) : ACalls Tryd.prog 7 args σ R := acalls_of Tryd.func7 c7_ok hl h

end Go.A
