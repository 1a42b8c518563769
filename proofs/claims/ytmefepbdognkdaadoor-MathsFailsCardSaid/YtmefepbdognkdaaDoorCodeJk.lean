/- The functions, compiled: by program (wip/gencode.py). -/
import Derived.Test.YtmefepbdognkdaaDoorBk
import Derived.Test.YtmefepbdognkdaaDoorProg
import Derived.KernelRfl
namespace Go.A
open Go.Proofs

/-! 6: tabular/tabularlaw16.MathsFails -/
def c6_0 : ACode := .ops [
    ⟨(some 8), none, .q (.mv (.v (.bool false))), []⟩]
def c6_1 : ACode := .ops [
    ⟨(some 19), none, .q (.mv (.t 1)), []⟩,
    ⟨(some 20), none, .e (.call 14 [(.t 19), (.v (.int .i64 2))]), []⟩,
    ⟨(some 1), none, .q (.mv (.t 20)), []⟩]
def c6_2 : ACode := .ops [
    ⟨(some 21), none, .q (.mv (.t 2)), []⟩,
    ⟨(some 22), none, .q (.bin .lss (.t 21) (.v (.int .i64 1))), []⟩,
    ⟨(some 23), none, .q (.mv (.t 22)), []⟩,
    ⟨(some 24), (some (23, false)), .q (.mv (.t 2)), []⟩,
    ⟨(some 25), (some (23, false)), .q (.bin .gtr (.t 24) (.v (.int .i64 7))), []⟩,
    ⟨(some 26), none, .q (.pick (.t 23) (.v (.bool true)) (.t 25)), []⟩,
    ⟨(some 27), none, .q (.mv (.t 26)), []⟩,
    ⟨(some 28), (some (27, false)), .q (.mv (.t 3)), []⟩,
    ⟨(some 29), (some (27, false)), .q (.bin .lss (.t 28) (.v (.int .i64 0))), []⟩,
    ⟨(some 30), none, .q (.pick (.t 27) (.v (.bool true)) (.t 29)), []⟩,
    ⟨(some 31), none, .q (.mv (.t 30)), []⟩,
    ⟨(some 32), (some (31, false)), .q (.mv (.t 3)), []⟩,
    ⟨(some 33), (some (31, false)), .q (.mv (.t 1)), []⟩,
    ⟨(some 34), (some (31, false)), .q (.len (.t 33)), []⟩,
    ⟨(some 35), (some (31, false)), .q (.bin .gtr (.t 32) (.t 34)), []⟩,
    ⟨(some 36), none, .q (.pick (.t 31) (.v (.bool true)) (.t 35)), []⟩]
def c6_3 : ACode := .ops [
    ⟨(some 37), none, .e (.call 9 []), []⟩,
    ⟨(some 8), none, .q (.mv (.t 37)), []⟩]
def c6_4 : ACode := .seq c6_3 .ret
def c6_5 : ACode := .cond (.t 36) c6_4 .skip
def c6_6 : ACode := .seq c6_2 c6_5
def c6_7 : ACode := .ops [
    ⟨(some 38), none, .q (.mv (.t 1)), []⟩,
    ⟨(some 39), none, .e (.call 15 [(.t 38)]), []⟩,
    ⟨(some 9), none, .q (.mv (.t 39)), []⟩]
def c6_8 : ACode := .ops [
    ⟨(some 40), none, .q (.mv (.t 9)), []⟩,
    ⟨(some 41), none, .q (.len (.t 40)), []⟩,
    ⟨(some 42), none, .q (.mv (.v (.int .i64 0))), []⟩]
def c6_9 : ACode := .ops [
    ⟨(some 43), none, .q (.bin .lss (.t 42) (.t 41)), []⟩]
def c6_10 : ACode := .cond (.t 43) .skip (.exit 0)
def c6_11 : ACode := .ops [
    ⟨(some 44), none, .q (.ia 4 (.t 40) (.t 42)), []⟩,
    ⟨(some 45), none, .q (.ld (some 4) (.t 44)), []⟩,
    ⟨(some 11), none, .e (.alloc [(.int .i64 0), (.int .i64 0), (.bool false), (.sl .full [])]), []⟩,
    ⟨none, none, .e (.store 4 (.t 11) (.t 45)), []⟩]
def c6_12 : ACode := .ops [
    ⟨(some 47), none, .q (.ld (some 4) (.t 11)), []⟩,
    ⟨(some 48), none, .e (.call 17 [(.t 47)]), []⟩,
    ⟨(some 49), none, .e (.call 16 [(.t 48)]), []⟩,
    ⟨(some 46), none, .q (.mv (.t 49)), []⟩,
    ⟨(some 50), none, .q (.ext 0 (.t 46)), []⟩,
    ⟨(some 51), none, .q (.ext 1 (.t 46)), []⟩,
    ⟨(some 12), none, .q (.mv (.t 50)), []⟩,
    ⟨(some 13), none, .q (.mv (.t 51)), []⟩]
def c6_13 : ACode := .ops [
    ⟨(some 52), none, .q (.mv (.t 13)), []⟩,
    ⟨(some 53), none, .q (.bin .neq (.t 52) (.v (.int .i64 0))), []⟩]
def c6_14 : ACode := .ops [
    ⟨(some 54), none, .e (.call 9 []), []⟩,
    ⟨(some 8), none, .q (.mv (.t 54)), []⟩]
def c6_15 : ACode := .seq c6_14 .ret
def c6_16 : ACode := .cond (.t 53) c6_15 .skip
def c6_17 : ACode := .seq c6_13 c6_16
def c6_18 : ACode := .seq c6_12 c6_17
def c6_19 : ACode := .seq c6_11 c6_18
def c6_20 : ACode := .block 1 c6_19
def c6_21 : ACode := .ops [
    ⟨(some 55), none, .q (.bin .add (.t 42) (.v (.int .i64 1))), []⟩,
    ⟨(some 42), none, .q (.mv (.t 55)), []⟩]
def c6_22 : ACode := .seq c6_20 c6_21
def c6_23 : ACode := .seq c6_10 c6_22
def c6_24 : ACode := .seq c6_9 c6_23
def c6_25 : ACode := .loop c6_24
def c6_26 : ACode := .block 0 c6_25
def c6_27 : ACode := .seq c6_8 c6_26
def c6_28 : ACode := .ops [
    ⟨(some 56), none, .q (.bsl 4 []), []⟩,
    ⟨(some 57), none, .q (.mv (.t 9)), []⟩,
    ⟨(some 58), none, .q (.mv (.t 3)), []⟩,
    ⟨(some 59), none, .q (.slto (false, 4) (.t 57) (.t 58)), []⟩,
    ⟨(some 60), none, .e (.app 38 4 48 [(.int .i64 0), (.int .i64 0), (.bool false), (.sl .full [])] (.t 56) (.t 59)), []⟩,
    ⟨(some 61), none, .q (.mv (.t 2)), []⟩,
    ⟨(some 62), none, .q (.mki 39 (.t 61)), []⟩,
    ⟨(some 63), none, .e (.call 18 [(.t 62)]), []⟩,
    ⟨(some 64), none, .q (.bsl 4 [(.t 63)]), []⟩,
    ⟨(some 65), none, .e (.app 38 4 48 [(.int .i64 0), (.int .i64 0), (.bool false), (.sl .full [])] (.t 60) (.t 64)), []⟩,
    ⟨(some 14), none, .q (.mv (.t 65)), []⟩]
def c6_29 : ACode := .ops [
    ⟨(some 66), none, .q (.mv (.t 14)), []⟩,
    ⟨(some 67), none, .q (.mv (.t 9)), []⟩,
    ⟨(some 68), none, .q (.mv (.t 3)), []⟩,
    ⟨(some 69), none, .q (.slfrom (false, 4) (.t 67) (.t 68)), []⟩,
    ⟨(some 70), none, .e (.app 38 4 48 [(.int .i64 0), (.int .i64 0), (.bool false), (.sl .full [])] (.t 66) (.t 69)), []⟩,
    ⟨(some 14), none, .q (.mv (.t 70)), []⟩]
def c6_30 : ACode := .ops [
    ⟨(some 72), none, .q (.mv (.t 0)), []⟩,
    ⟨(some 73), none, .q (.mv (.t 14)), []⟩,
    ⟨(some 74), none, .e (.call 20 [(.t 72), (.t 73)]), []⟩,
    ⟨(some 75), none, .e (.call 19 [(.t 74)]), []⟩,
    ⟨(some 71), none, .q (.mv (.t 75)), []⟩,
    ⟨(some 76), none, .q (.ext 0 (.t 71)), []⟩,
    ⟨(some 77), none, .q (.ext 1 (.t 71)), []⟩,
    ⟨(some 15), none, .q (.mv (.t 76)), []⟩,
    ⟨(some 16), none, .q (.mv (.t 77)), []⟩]
def c6_31 : ACode := .ops [
    ⟨(some 78), none, .q (.mv (.t 0)), []⟩,
    ⟨(some 79), none, .e (.call 21 [(.t 78)]), []⟩,
    ⟨(some 80), none, .q (.un .not (.t 79)), []⟩]
def c6_32 : ACode := .ops [
    ⟨(some 81), none, .e (.call 9 []), []⟩,
    ⟨(some 82), none, .q (.mv (.t 81)), []⟩,
    ⟨(some 83), (some (82, true)), .q (.mv (.t 16)), []⟩,
    ⟨(some 84), none, .q (.pick (.t 82) (.t 83) (.v (.bool false))), []⟩,
    ⟨(some 85), none, .q (.mv (.t 84)), []⟩,
    ⟨(some 86), (some (85, true)), .q (.mv (.t 15)), []⟩,
    ⟨(some 87), (some (85, true)), .q (.bin .eql (.t 86) (.v (.int .i64 6))), []⟩,
    ⟨(some 88), none, .q (.pick (.t 85) (.t 87) (.v (.bool false))), []⟩,
    ⟨(some 8), none, .q (.mv (.t 88)), []⟩]
def c6_33 : ACode := .seq c6_32 .ret
def c6_34 : ACode := .cond (.t 80) c6_33 .skip
def c6_35 : ACode := .seq c6_31 c6_34
def c6_36 : ACode := .ops [
    ⟨(some 90), none, .q (.mv (.t 0)), []⟩,
    ⟨(some 91), none, .e (.call 20 [(.t 90), (.v (.sl .full []))]), []⟩,
    ⟨(some 92), none, .e (.call 19 [(.t 91)]), []⟩,
    ⟨(some 89), none, .q (.mv (.t 92)), []⟩,
    ⟨(some 93), none, .q (.ext 0 (.t 89)), []⟩,
    ⟨(some 94), none, .q (.ext 1 (.t 89)), []⟩,
    ⟨(some 17), none, .q (.mv (.t 93)), []⟩,
    ⟨(some 18), none, .q (.mv (.t 94)), []⟩]
def c6_37 : ACode := .ops [
    ⟨(some 95), none, .e (.call 9 []), []⟩,
    ⟨(some 96), none, .q (.mv (.t 95)), []⟩,
    ⟨(some 97), (some (96, true)), .q (.mv (.t 16)), []⟩,
    ⟨(some 98), none, .q (.pick (.t 96) (.t 97) (.v (.bool false))), []⟩,
    ⟨(some 99), none, .q (.mv (.t 98)), []⟩,
    ⟨(some 100), (some (99, true)), .q (.mv (.t 15)), []⟩,
    ⟨(some 101), (some (99, true)), .q (.mv (.t 2)), []⟩,
    ⟨(some 102), (some (99, true)), .q (.bin .eql (.t 100) (.t 101)), []⟩,
    ⟨(some 103), (some (99, true)), .q (.mv (.t 102)), []⟩,
    ⟨(some 104), (some (103, false)), .q (.mv (.t 15)), []⟩,
    ⟨(some 105), (some (103, false)), .q (.bin .eql (.t 104) (.v (.int .i64 3))), []⟩,
    ⟨(some 106), (some (99, true)), .q (.pick (.t 103) (.v (.bool true)) (.t 105)), []⟩,
    ⟨(some 107), none, .q (.pick (.t 99) (.t 106) (.v (.bool false))), []⟩,
    ⟨(some 108), none, .q (.mv (.t 107)), []⟩,
    ⟨(some 109), (some (108, true)), .q (.mv (.t 18)), []⟩,
    ⟨(some 110), none, .q (.pick (.t 108) (.t 109) (.v (.bool false))), []⟩,
    ⟨(some 111), none, .q (.mv (.t 110)), []⟩,
    ⟨(some 112), (some (111, true)), .q (.mv (.t 17)), []⟩,
    ⟨(some 113), (some (111, true)), .q (.bin .eql (.t 112) (.v (.int .i64 3))), []⟩,
    ⟨(some 114), none, .q (.pick (.t 111) (.t 113) (.v (.bool false))), []⟩,
    ⟨(some 8), none, .q (.mv (.t 114)), []⟩]
def c6_38 : ACode := .seq c6_37 .ret
def c6_39 : ACode := .seq c6_36 c6_38
def c6_40 : ACode := .seq c6_35 c6_39
def c6_41 : ACode := .seq c6_30 c6_40
def c6_42 : ACode := .seq c6_29 c6_41
def c6_43 : ACode := .seq c6_28 c6_42
def c6_44 : ACode := .seq c6_27 c6_43
def c6_45 : ACode := .seq c6_7 c6_44
def c6_46 : ACode := .seq c6_6 c6_45
def c6_47 : ACode := .seq c6_1 c6_46
def c6_48 : ACode := .seq c6_0 c6_47
@[go_sem] theorem c6_0_wp : type_of% (wp_of c6_0.eq_1) := wp_of c6_0.eq_1
@[go_sem] theorem c6_1_wp : type_of% (wp_of c6_1.eq_1) := wp_of c6_1.eq_1
@[go_sem] theorem c6_2_wp : type_of% (wp_of c6_2.eq_1) := wp_of c6_2.eq_1
@[go_sem] theorem c6_3_wp : type_of% (wp_of c6_3.eq_1) := wp_of c6_3.eq_1
@[go_sem] theorem c6_4_wp : type_of% (wp_of c6_4.eq_1) := wp_of c6_4.eq_1
@[go_sem] theorem c6_5_wp : type_of% (wp_of c6_5.eq_1) := wp_of c6_5.eq_1
@[go_sem] theorem c6_6_wp : type_of% (wp_of c6_6.eq_1) := wp_of c6_6.eq_1
@[go_sem] theorem c6_7_wp : type_of% (wp_of c6_7.eq_1) := wp_of c6_7.eq_1
@[go_sem] theorem c6_8_wp : type_of% (wp_of c6_8.eq_1) := wp_of c6_8.eq_1
@[go_sem] theorem c6_9_wp : type_of% (wp_of c6_9.eq_1) := wp_of c6_9.eq_1
@[go_sem] theorem c6_10_wp : type_of% (wp_of c6_10.eq_1) := wp_of c6_10.eq_1
@[go_sem] theorem c6_11_wp : type_of% (wp_of c6_11.eq_1) := wp_of c6_11.eq_1
@[go_sem] theorem c6_12_wp : type_of% (wp_of c6_12.eq_1) := wp_of c6_12.eq_1
@[go_sem] theorem c6_13_wp : type_of% (wp_of c6_13.eq_1) := wp_of c6_13.eq_1
@[go_sem] theorem c6_14_wp : type_of% (wp_of c6_14.eq_1) := wp_of c6_14.eq_1
@[go_sem] theorem c6_15_wp : type_of% (wp_of c6_15.eq_1) := wp_of c6_15.eq_1
@[go_sem] theorem c6_16_wp : type_of% (wp_of c6_16.eq_1) := wp_of c6_16.eq_1
@[go_sem] theorem c6_17_wp : type_of% (wp_of c6_17.eq_1) := wp_of c6_17.eq_1
@[go_sem] theorem c6_18_wp : type_of% (wp_of c6_18.eq_1) := wp_of c6_18.eq_1
@[go_sem] theorem c6_19_wp : type_of% (wp_of c6_19.eq_1) := wp_of c6_19.eq_1
@[go_sem] theorem c6_20_wp : type_of% (wp_of c6_20.eq_1) := wp_of c6_20.eq_1
@[go_sem] theorem c6_21_wp : type_of% (wp_of c6_21.eq_1) := wp_of c6_21.eq_1
@[go_sem] theorem c6_22_wp : type_of% (wp_of c6_22.eq_1) := wp_of c6_22.eq_1
@[go_sem] theorem c6_23_wp : type_of% (wp_of c6_23.eq_1) := wp_of c6_23.eq_1
@[go_sem] theorem c6_24_wp : type_of% (wp_of c6_24.eq_1) := wp_of c6_24.eq_1
@[go_sem] theorem c6_25_wp : type_of% (wp_of c6_25.eq_1) := wp_of c6_25.eq_1
@[go_sem] theorem c6_26_wp : type_of% (wp_of c6_26.eq_1) := wp_of c6_26.eq_1
@[go_sem] theorem c6_27_wp : type_of% (wp_of c6_27.eq_1) := wp_of c6_27.eq_1
@[go_sem] theorem c6_28_wp : type_of% (wp_of c6_28.eq_1) := wp_of c6_28.eq_1
@[go_sem] theorem c6_29_wp : type_of% (wp_of c6_29.eq_1) := wp_of c6_29.eq_1
@[go_sem] theorem c6_30_wp : type_of% (wp_of c6_30.eq_1) := wp_of c6_30.eq_1
@[go_sem] theorem c6_31_wp : type_of% (wp_of c6_31.eq_1) := wp_of c6_31.eq_1
@[go_sem] theorem c6_32_wp : type_of% (wp_of c6_32.eq_1) := wp_of c6_32.eq_1
@[go_sem] theorem c6_33_wp : type_of% (wp_of c6_33.eq_1) := wp_of c6_33.eq_1
@[go_sem] theorem c6_34_wp : type_of% (wp_of c6_34.eq_1) := wp_of c6_34.eq_1
@[go_sem] theorem c6_35_wp : type_of% (wp_of c6_35.eq_1) := wp_of c6_35.eq_1
@[go_sem] theorem c6_36_wp : type_of% (wp_of c6_36.eq_1) := wp_of c6_36.eq_1
@[go_sem] theorem c6_37_wp : type_of% (wp_of c6_37.eq_1) := wp_of c6_37.eq_1
@[go_sem] theorem c6_38_wp : type_of% (wp_of c6_38.eq_1) := wp_of c6_38.eq_1
@[go_sem] theorem c6_39_wp : type_of% (wp_of c6_39.eq_1) := wp_of c6_39.eq_1
@[go_sem] theorem c6_40_wp : type_of% (wp_of c6_40.eq_1) := wp_of c6_40.eq_1
@[go_sem] theorem c6_41_wp : type_of% (wp_of c6_41.eq_1) := wp_of c6_41.eq_1
@[go_sem] theorem c6_42_wp : type_of% (wp_of c6_42.eq_1) := wp_of c6_42.eq_1
@[go_sem] theorem c6_43_wp : type_of% (wp_of c6_43.eq_1) := wp_of c6_43.eq_1
@[go_sem] theorem c6_44_wp : type_of% (wp_of c6_44.eq_1) := wp_of c6_44.eq_1
@[go_sem] theorem c6_45_wp : type_of% (wp_of c6_45.eq_1) := wp_of c6_45.eq_1
@[go_sem] theorem c6_46_wp : type_of% (wp_of c6_46.eq_1) := wp_of c6_46.eq_1
@[go_sem] theorem c6_47_wp : type_of% (wp_of c6_47.eq_1) := wp_of c6_47.eq_1
@[go_sem] theorem c6_48_wp : type_of% (wp_of c6_48.eq_1) := wp_of c6_48.eq_1
def c6 : AFn := ⟨115, [.t 8], c6_48⟩
set_option maxRecDepth 100000 in
theorem c6_ok : compF Tryd.prog Tryd.f6 = some c6 := by kernel_rfl
theorem a6 {args : List AV} {σ : ASt} {R : AV → ASt → Prop} (hl : args.length ≤ 115) (h : c6_48.wp Tryd.prog (RetQ [.t 8] R) (init args) σ) : ACalls Tryd.prog 6 args σ R := acalls_of Tryd.func6 c6_ok hl h

/-! 14: tabular/tabularlaw16.Few -/
def c14_0 : ACode := .ops [
    ⟨(some 4), none, .q (.mv (.v (.sl .full []))), []⟩]
def c14_1 : ACode := .ops [
    ⟨(some 5), none, .q (.mv (.t 0)), []⟩,
    ⟨(some 6), none, .q (.len (.t 5)), []⟩,
    ⟨(some 7), none, .q (.mv (.t 1)), []⟩,
    ⟨(some 8), none, .q (.bin .gtr (.t 6) (.t 7)), []⟩]
def c14_2 : ACode := .ops [
    ⟨(some 9), none, .q (.mv (.t 0)), []⟩,
    ⟨(some 10), none, .q (.mv (.t 1)), []⟩,
    ⟨(some 11), none, .q (.slto (false, 3) (.t 9) (.t 10)), []⟩,
    ⟨(some 4), none, .q (.mv (.t 11)), []⟩]
def c14_3 : ACode := .seq c14_2 .ret
def c14_4 : ACode := .cond (.t 8) c14_3 .skip
def c14_5 : ACode := .seq c14_1 c14_4
def c14_6 : ACode := .ops [
    ⟨(some 12), none, .q (.mv (.t 0)), []⟩,
    ⟨(some 4), none, .q (.mv (.t 12)), []⟩]
def c14_7 : ACode := .seq c14_6 .ret
def c14_8 : ACode := .seq c14_5 c14_7
def c14_9 : ACode := .seq c14_0 c14_8
@[go_sem] theorem c14_0_wp : type_of% (wp_of c14_0.eq_1) := wp_of c14_0.eq_1
@[go_sem] theorem c14_1_wp : type_of% (wp_of c14_1.eq_1) := wp_of c14_1.eq_1
@[go_sem] theorem c14_2_wp : type_of% (wp_of c14_2.eq_1) := wp_of c14_2.eq_1
@[go_sem] theorem c14_3_wp : type_of% (wp_of c14_3.eq_1) := wp_of c14_3.eq_1
@[go_sem] theorem c14_4_wp : type_of% (wp_of c14_4.eq_1) := wp_of c14_4.eq_1
@[go_sem] theorem c14_5_wp : type_of% (wp_of c14_5.eq_1) := wp_of c14_5.eq_1
@[go_sem] theorem c14_6_wp : type_of% (wp_of c14_6.eq_1) := wp_of c14_6.eq_1
@[go_sem] theorem c14_7_wp : type_of% (wp_of c14_7.eq_1) := wp_of c14_7.eq_1
@[go_sem] theorem c14_8_wp : type_of% (wp_of c14_8.eq_1) := wp_of c14_8.eq_1
@[go_sem] theorem c14_9_wp : type_of% (wp_of c14_9.eq_1) := wp_of c14_9.eq_1
def c14 : AFn := ⟨13, [.t 4], c14_9⟩
set_option maxRecDepth 100000 in
theorem c14_ok : compF Tryd.prog Tryd.f14 = some c14 := by kernel_rfl
theorem a14 {args : List AV} {σ : ASt} {R : AV → ASt → Prop} (hl : args.length ≤ 13) (h : c14_9.wp Tryd.prog (RetQ [.t 4] R) (init args) σ) : ACalls Tryd.prog 14 args σ R := acalls_of Tryd.func14 c14_ok hl h

end Go.A
