/- The functions, compiled: by program (wip/gencode.py). -/
import Derived.Test.YtmefepbdognkdaaDoorBk
import Derived.Test.YtmefepbdognkdaaDoorProg
import Derived.KernelRfl
namespace Go.A
open Go.Proofs

/-! 4: tabular/tabularlaw16.MathsDivides -/
def c4_0 : ACode := .ops [
    ⟨(some 4), none, .q (.mv (.v (.bool false))), []⟩]
def c4_1 : ACode := .ops [
    ⟨(some 11), none, .q (.mv (.t 0)), []⟩,
    ⟨(some 12), none, .q (.bin .lss (.t 11) (.v (.int .i64 1))), []⟩,
    ⟨(some 13), none, .q (.mv (.t 12)), []⟩,
    ⟨(some 14), (some (13, false)), .q (.mv (.t 1)), []⟩,
    ⟨(some 15), (some (13, false)), .q (.bin .lss (.t 14) (.v (.int .i64 1))), []⟩,
    ⟨(some 16), none, .q (.pick (.t 13) (.v (.bool true)) (.t 15)), []⟩,
    ⟨(some 17), none, .q (.mv (.t 16)), []⟩,
    ⟨(some 18), (some (17, false)), .q (.mv (.t 0)), []⟩,
    ⟨(some 19), (some (17, false)), .q (.bin .gtr (.t 18) (.v (.int .i64 1000000))), []⟩,
    ⟨(some 20), none, .q (.pick (.t 17) (.v (.bool true)) (.t 19)), []⟩,
    ⟨(some 21), none, .q (.mv (.t 20)), []⟩,
    ⟨(some 22), (some (21, false)), .q (.mv (.t 1)), []⟩,
    ⟨(some 23), (some (21, false)), .q (.bin .gtr (.t 22) (.v (.int .i64 1000000))), []⟩,
    ⟨(some 24), none, .q (.pick (.t 21) (.v (.bool true)) (.t 23)), []⟩]
def c4_2 : ACode := .ops [
    ⟨(some 25), none, .e (.call 9 []), []⟩,
    ⟨(some 4), none, .q (.mv (.t 25)), []⟩]
def c4_3 : ACode := .seq c4_2 .ret
def c4_4 : ACode := .cond (.t 24) c4_3 .skip
def c4_5 : ACode := .seq c4_1 c4_4
def c4_6 : ACode := .ops [
    ⟨(some 26), none, .q (.mv (.t 0)), []⟩,
    ⟨(some 27), none, .q (.bin .mul (.t 26) (.v (.int .i64 10000))), []⟩,
    ⟨(some 28), none, .q (.mv (.t 1)), []⟩,
    ⟨(some 29), none, .q (.bin .mul (.t 28) (.v (.int .i64 10000))), []⟩,
    ⟨(some 5), none, .q (.mv (.t 27)), []⟩,
    ⟨(some 6), none, .q (.mv (.t 29)), []⟩]
def c4_7 : ACode := .ops [
    ⟨(some 31), none, .q (.mv (.t 5)), []⟩,
    ⟨(some 32), none, .q (.mv (.t 6)), []⟩,
    ⟨(some 33), none, .q (.bsl 1 [(.t 31), (.t 32)]), []⟩,
    ⟨(some 34), none, .e (.call 10 [(.v (.str [71, 67, 68])), (.t 33)]), []⟩,
    ⟨(some 30), none, .q (.mv (.t 34)), []⟩,
    ⟨(some 35), none, .q (.ext 0 (.t 30)), []⟩,
    ⟨(some 36), none, .q (.ext 1 (.t 30)), []⟩,
    ⟨(some 7), none, .q (.mv (.t 35)), []⟩,
    ⟨(some 8), none, .q (.mv (.t 36)), []⟩]
def c4_8 : ACode := .ops [
    ⟨(some 38), none, .q (.mv (.t 5)), []⟩,
    ⟨(some 39), none, .q (.mv (.t 6)), []⟩,
    ⟨(some 40), none, .q (.bsl 1 [(.t 38), (.t 39)]), []⟩,
    ⟨(some 41), none, .e (.call 10 [(.v (.str [76, 67, 77])), (.t 40)]), []⟩,
    ⟨(some 37), none, .q (.mv (.t 41)), []⟩,
    ⟨(some 42), none, .q (.ext 0 (.t 37)), []⟩,
    ⟨(some 43), none, .q (.ext 1 (.t 37)), []⟩,
    ⟨(some 9), none, .q (.mv (.t 42)), []⟩,
    ⟨(some 10), none, .q (.mv (.t 43)), []⟩]
def c4_9 : ACode := .ops [
    ⟨(some 44), none, .q (.mv (.t 8)), []⟩,
    ⟨(some 45), none, .q (.un .not (.t 44)), []⟩,
    ⟨(some 46), none, .q (.mv (.t 45)), []⟩,
    ⟨(some 47), (some (46, false)), .q (.mv (.t 10)), []⟩,
    ⟨(some 48), (some (46, false)), .q (.un .not (.t 47)), []⟩,
    ⟨(some 49), none, .q (.pick (.t 46) (.v (.bool true)) (.t 48)), []⟩,
    ⟨(some 50), none, .q (.mv (.t 49)), []⟩,
    ⟨(some 51), (some (50, false)), .q (.mv (.t 7)), []⟩,
    ⟨(some 52), (some (50, false)), .e (.call 12 [(.t 51)]), []⟩,
    ⟨(some 53), (some (50, false)), .q (.un .not (.t 52)), []⟩,
    ⟨(some 54), none, .q (.pick (.t 50) (.v (.bool true)) (.t 53)), []⟩,
    ⟨(some 55), none, .q (.mv (.t 54)), []⟩,
    ⟨(some 56), (some (55, false)), .q (.mv (.t 9)), []⟩,
    ⟨(some 57), (some (55, false)), .e (.call 12 [(.t 56)]), []⟩,
    ⟨(some 58), (some (55, false)), .q (.un .not (.t 57)), []⟩,
    ⟨(some 59), none, .q (.pick (.t 55) (.v (.bool true)) (.t 58)), []⟩,
    ⟨(some 60), none, .q (.mv (.t 59)), []⟩,
    ⟨(some 61), (some (60, false)), .q (.mv (.t 7)), []⟩,
    ⟨(some 62), (some (60, false)), .e (.call 13 [(.t 61)]), []⟩,
    ⟨(some 63), (some (60, false)), .q (.bin .lss (.t 62) (.v (.int .i64 1))), []⟩,
    ⟨(some 64), none, .q (.pick (.t 60) (.v (.bool true)) (.t 63)), []⟩,
    ⟨(some 65), none, .q (.mv (.t 64)), []⟩,
    ⟨(some 66), (some (65, false)), .q (.mv (.t 9)), []⟩,
    ⟨(some 67), (some (65, false)), .e (.call 13 [(.t 66)]), []⟩,
    ⟨(some 68), (some (65, false)), .q (.bin .lss (.t 67) (.v (.int .i64 1))), []⟩,
    ⟨(some 69), none, .q (.pick (.t 65) (.v (.bool true)) (.t 68)), []⟩]
def c4_10 : ACode := .ops [
    ⟨(some 4), none, .q (.mv (.v (.bool false))), []⟩]
def c4_11 : ACode := .seq c4_10 .ret
def c4_12 : ACode := .cond (.t 69) c4_11 .skip
def c4_13 : ACode := .seq c4_9 c4_12
def c4_14 : ACode := .ops [
    ⟨(some 70), none, .e (.call 9 []), []⟩,
    ⟨(some 71), none, .q (.mv (.t 70)), []⟩,
    ⟨(some 72), (some (71, true)), .q (.mv (.t 0)), []⟩,
    ⟨(some 73), (some (71, true)), .q (.mv (.t 7)), []⟩,
    ⟨(some 74), (some (71, true)), .e (.call 13 [(.t 73)]), []⟩,
    ⟨(some 75), (some (71, true)), .q (.bin .rem (.t 72) (.t 74)), []⟩,
    ⟨(some 76), (some (71, true)), .q (.bin .eql (.t 75) (.v (.int .i64 0))), []⟩,
    ⟨(some 77), none, .q (.pick (.t 71) (.t 76) (.v (.bool false))), []⟩,
    ⟨(some 78), none, .q (.mv (.t 77)), []⟩,
    ⟨(some 79), (some (78, true)), .q (.mv (.t 1)), []⟩,
    ⟨(some 80), (some (78, true)), .q (.mv (.t 7)), []⟩,
    ⟨(some 81), (some (78, true)), .e (.call 13 [(.t 80)]), []⟩,
    ⟨(some 82), (some (78, true)), .q (.bin .rem (.t 79) (.t 81)), []⟩,
    ⟨(some 83), (some (78, true)), .q (.bin .eql (.t 82) (.v (.int .i64 0))), []⟩,
    ⟨(some 84), none, .q (.pick (.t 78) (.t 83) (.v (.bool false))), []⟩,
    ⟨(some 85), none, .q (.mv (.t 84)), []⟩,
    ⟨(some 86), (some (85, true)), .q (.mv (.t 9)), []⟩,
    ⟨(some 87), (some (85, true)), .e (.call 13 [(.t 86)]), []⟩,
    ⟨(some 88), (some (85, true)), .q (.mv (.t 0)), []⟩,
    ⟨(some 89), (some (85, true)), .q (.bin .rem (.t 87) (.t 88)), []⟩,
    ⟨(some 90), (some (85, true)), .q (.bin .eql (.t 89) (.v (.int .i64 0))), []⟩,
    ⟨(some 91), none, .q (.pick (.t 85) (.t 90) (.v (.bool false))), []⟩,
    ⟨(some 92), none, .q (.mv (.t 91)), []⟩,
    ⟨(some 93), (some (92, true)), .q (.mv (.t 9)), []⟩,
    ⟨(some 94), (some (92, true)), .e (.call 13 [(.t 93)]), []⟩,
    ⟨(some 95), (some (92, true)), .q (.mv (.t 1)), []⟩,
    ⟨(some 96), (some (92, true)), .q (.bin .rem (.t 94) (.t 95)), []⟩,
    ⟨(some 97), (some (92, true)), .q (.bin .eql (.t 96) (.v (.int .i64 0))), []⟩,
    ⟨(some 98), none, .q (.pick (.t 92) (.t 97) (.v (.bool false))), []⟩,
    ⟨(some 99), none, .q (.mv (.t 98)), []⟩,
    ⟨(some 100), (some (99, true)), .q (.mv (.t 9)), []⟩,
    ⟨(some 101), (some (99, true)), .e (.call 13 [(.t 100)]), []⟩,
    ⟨(some 102), (some (99, true)), .q (.mv (.t 0)), []⟩,
    ⟨(some 103), (some (99, true)), .q (.mv (.t 7)), []⟩,
    ⟨(some 104), (some (99, true)), .e (.call 13 [(.t 103)]), []⟩,
    ⟨(some 105), (some (99, true)), .q (.bin .quo (.t 102) (.t 104)), []⟩,
    ⟨(some 106), (some (99, true)), .q (.mv (.t 1)), []⟩,
    ⟨(some 107), (some (99, true)), .q (.bin .mul (.t 105) (.t 106)), []⟩,
    ⟨(some 108), (some (99, true)), .q (.bin .eql (.t 101) (.t 107)), []⟩,
    ⟨(some 109), none, .q (.pick (.t 99) (.t 108) (.v (.bool false))), []⟩,
    ⟨(some 4), none, .q (.mv (.t 109)), []⟩]
def c4_15 : ACode := .seq c4_14 .ret
def c4_16 : ACode := .seq c4_13 c4_15
def c4_17 : ACode := .seq c4_8 c4_16
def c4_18 : ACode := .seq c4_7 c4_17
def c4_19 : ACode := .seq c4_6 c4_18
def c4_20 : ACode := .seq c4_5 c4_19
def c4_21 : ACode := .seq c4_0 c4_20
@[go_sem] theorem c4_0_wp : type_of% (wp_of c4_0.eq_1) := wp_of c4_0.eq_1
@[go_sem] theorem c4_1_wp : type_of% (wp_of c4_1.eq_1) := wp_of c4_1.eq_1
@[go_sem] theorem c4_2_wp : type_of% (wp_of c4_2.eq_1) := wp_of c4_2.eq_1
@[go_sem] theorem c4_3_wp : type_of% (wp_of c4_3.eq_1) := wp_of c4_3.eq_1
@[go_sem] theorem c4_4_wp : type_of% (wp_of c4_4.eq_1) := wp_of c4_4.eq_1
@[go_sem] theorem c4_5_wp : type_of% (wp_of c4_5.eq_1) := wp_of c4_5.eq_1
@[go_sem] theorem c4_6_wp : type_of% (wp_of c4_6.eq_1) := wp_of c4_6.eq_1
@[go_sem] theorem c4_7_wp : type_of% (wp_of c4_7.eq_1) := wp_of c4_7.eq_1
@[go_sem] theorem c4_8_wp : type_of% (wp_of c4_8.eq_1) := wp_of c4_8.eq_1
@[go_sem] theorem c4_9_wp : type_of% (wp_of c4_9.eq_1) := wp_of c4_9.eq_1
@[go_sem] theorem c4_10_wp : type_of% (wp_of c4_10.eq_1) := wp_of c4_10.eq_1
@[go_sem] theorem c4_11_wp : type_of% (wp_of c4_11.eq_1) := wp_of c4_11.eq_1
@[go_sem] theorem c4_12_wp : type_of% (wp_of c4_12.eq_1) := wp_of c4_12.eq_1
@[go_sem] theorem c4_13_wp : type_of% (wp_of c4_13.eq_1) := wp_of c4_13.eq_1
@[go_sem] theorem c4_14_wp : type_of% (wp_of c4_14.eq_1) := wp_of c4_14.eq_1
@[go_sem] theorem c4_15_wp : type_of% (wp_of c4_15.eq_1) := wp_of c4_15.eq_1
@[go_sem] theorem c4_16_wp : type_of% (wp_of c4_16.eq_1) := wp_of c4_16.eq_1
@[go_sem] theorem c4_17_wp : type_of% (wp_of c4_17.eq_1) := wp_of c4_17.eq_1
@[go_sem] theorem c4_18_wp : type_of% (wp_of c4_18.eq_1) := wp_of c4_18.eq_1
@[go_sem] theorem c4_19_wp : type_of% (wp_of c4_19.eq_1) := wp_of c4_19.eq_1
@[go_sem] theorem c4_20_wp : type_of% (wp_of c4_20.eq_1) := wp_of c4_20.eq_1
@[go_sem] theorem c4_21_wp : type_of% (wp_of c4_21.eq_1) := wp_of c4_21.eq_1
def c4 : AFn := ⟨110, [.t 4], c4_21⟩
set_option maxRecDepth 100000 in
theorem c4_ok : compF Tryd.prog Tryd.f4 = some c4 := by kernel_rfl
theorem a4 {args : List AV} {σ : ASt} {R : AV → ASt → Prop} (hl : args.length ≤ 110) (h : c4_21.wp Tryd.prog (RetQ [.t 4] R) (init args) σ) : ACalls Tryd.prog 4 args σ R := acalls_of Tryd.func4 c4_ok hl h

end Go.A
