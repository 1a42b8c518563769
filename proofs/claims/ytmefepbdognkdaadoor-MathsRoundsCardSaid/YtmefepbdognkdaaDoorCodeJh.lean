/- The functions, compiled: by program (wip/gencode.py). -/
import Derived.Test.YtmefepbdognkdaaDoorBk
import Derived.Test.YtmefepbdognkdaaDoorProg
import Derived.KernelRfl
namespace Go.A
open Go.Proofs

/-! 3: tabular/tabularlaw16.MathsRounds -/
def c3_0 : ACode := .ops [
    ⟨(some 4), none, .q (.mv (.v (.bool false))), []⟩]
def c3_1 : ACode := .ops [
    ⟨(some 12), none, .q (.mv (.t 0)), []⟩,
    ⟨(some 13), none, .e (.call 8 [(.t 12)]), []⟩,
    ⟨(some 14), none, .q (.un .not (.t 13)), []⟩,
    ⟨(some 15), none, .q (.mv (.t 14)), []⟩,
    ⟨(some 16), (some (15, false)), .q (.mv (.t 1)), []⟩,
    ⟨(some 17), (some (15, false)), .q (.bin .lss (.t 16) (.v (.int .i64 0))), []⟩,
    ⟨(some 18), none, .q (.pick (.t 15) (.v (.bool true)) (.t 17)), []⟩,
    ⟨(some 19), none, .q (.mv (.t 18)), []⟩,
    ⟨(some 20), (some (19, false)), .q (.mv (.t 1)), []⟩,
    ⟨(some 21), (some (19, false)), .q (.bin .gtr (.t 20) (.v (.int .i64 4))), []⟩,
    ⟨(some 22), none, .q (.pick (.t 19) (.v (.bool true)) (.t 21)), []⟩]
def c3_2 : ACode := .ops [
    ⟨(some 23), none, .e (.call 9 []), []⟩,
    ⟨(some 4), none, .q (.mv (.t 23)), []⟩]
def c3_3 : ACode := .seq c3_2 .ret
def c3_4 : ACode := .cond (.t 22) c3_3 .skip
def c3_5 : ACode := .seq c3_1 c3_4
def c3_6 : ACode := .ops [
    ⟨(some 24), none, .q (.mv (.t 1)), []⟩,
    ⟨(some 25), none, .q (.bin .mul (.t 24) (.v (.int .i64 10000))), []⟩,
    ⟨(some 5), none, .q (.mv (.t 25)), []⟩]
def c3_7 : ACode := .ops [
    ⟨(some 27), none, .q (.mv (.t 0)), []⟩,
    ⟨(some 28), none, .q (.mv (.t 5)), []⟩,
    ⟨(some 29), none, .q (.bsl 1 [(.t 27), (.t 28)]), []⟩,
    ⟨(some 30), none, .e (.call 10 [(.v (.str [82, 79, 85, 78, 68, 68, 79, 87, 78])), (.t 29)]), []⟩,
    ⟨(some 26), none, .q (.mv (.t 30)), []⟩,
    ⟨(some 31), none, .q (.ext 0 (.t 26)), []⟩,
    ⟨(some 32), none, .q (.ext 1 (.t 26)), []⟩,
    ⟨(some 6), none, .q (.mv (.t 31)), []⟩,
    ⟨(some 7), none, .q (.mv (.t 32)), []⟩]
def c3_8 : ACode := .ops [
    ⟨(some 34), none, .q (.mv (.t 0)), []⟩,
    ⟨(some 35), none, .q (.mv (.t 5)), []⟩,
    ⟨(some 36), none, .q (.bsl 1 [(.t 34), (.t 35)]), []⟩,
    ⟨(some 37), none, .e (.call 10 [(.v (.str [82, 79, 85, 78, 68])), (.t 36)]), []⟩,
    ⟨(some 33), none, .q (.mv (.t 37)), []⟩,
    ⟨(some 38), none, .q (.ext 0 (.t 33)), []⟩,
    ⟨(some 39), none, .q (.ext 1 (.t 33)), []⟩,
    ⟨(some 8), none, .q (.mv (.t 38)), []⟩,
    ⟨(some 9), none, .q (.mv (.t 39)), []⟩]
def c3_9 : ACode := .ops [
    ⟨(some 41), none, .q (.mv (.t 0)), []⟩,
    ⟨(some 42), none, .q (.mv (.t 5)), []⟩,
    ⟨(some 43), none, .q (.bsl 1 [(.t 41), (.t 42)]), []⟩,
    ⟨(some 44), none, .e (.call 10 [(.v (.str [82, 79, 85, 78, 68, 85, 80])), (.t 43)]), []⟩,
    ⟨(some 40), none, .q (.mv (.t 44)), []⟩,
    ⟨(some 45), none, .q (.ext 0 (.t 40)), []⟩,
    ⟨(some 46), none, .q (.ext 1 (.t 40)), []⟩,
    ⟨(some 10), none, .q (.mv (.t 45)), []⟩,
    ⟨(some 11), none, .q (.mv (.t 46)), []⟩]
def c3_10 : ACode := .ops [
    ⟨(some 47), none, .q (.mv (.t 7)), []⟩,
    ⟨(some 48), none, .q (.un .not (.t 47)), []⟩]
def c3_11 : ACode := .ops [
    ⟨(some 4), none, .q (.mv (.v (.bool false))), []⟩]
def c3_12 : ACode := .seq c3_11 .ret
def c3_13 : ACode := .cond (.t 48) c3_12 .skip
def c3_14 : ACode := .seq c3_10 c3_13
def c3_15 : ACode := .ops [
    ⟨(some 49), none, .q (.mv (.t 9)), []⟩,
    ⟨(some 50), none, .q (.un .not (.t 49)), []⟩,
    ⟨(some 51), none, .q (.mv (.t 50)), []⟩,
    ⟨(some 52), (some (51, false)), .q (.mv (.t 11)), []⟩,
    ⟨(some 53), (some (51, false)), .q (.un .not (.t 52)), []⟩,
    ⟨(some 54), none, .q (.pick (.t 51) (.v (.bool true)) (.t 53)), []⟩]
def c3_16 : ACode := .ops [
    ⟨(some 55), none, .e (.call 9 []), []⟩,
    ⟨(some 56), none, .q (.mv (.t 55)), []⟩,
    ⟨(some 57), (some (56, true)), .q (.mv (.t 0)), []⟩,
    ⟨(some 58), (some (56, true)), .e (.call 11 [(.t 57)]), []⟩,
    ⟨(some 59), (some (56, true)), .q (.bin .gtr (.t 58) (.v (.int .i64 999999999999989999))), []⟩,
    ⟨(some 60), none, .q (.pick (.t 56) (.t 59) (.v (.bool false))), []⟩,
    ⟨(some 4), none, .q (.mv (.t 60)), []⟩]
def c3_17 : ACode := .seq c3_16 .ret
def c3_18 : ACode := .cond (.t 54) c3_17 .skip
def c3_19 : ACode := .seq c3_15 c3_18
def c3_20 : ACode := .ops [
    ⟨(some 61), none, .e (.call 9 []), []⟩,
    ⟨(some 62), none, .q (.mv (.t 61)), []⟩,
    ⟨(some 63), (some (62, true)), .q (.mv (.t 6)), []⟩,
    ⟨(some 64), (some (62, true)), .e (.call 11 [(.t 63)]), []⟩,
    ⟨(some 65), (some (62, true)), .q (.mv (.t 0)), []⟩,
    ⟨(some 66), (some (62, true)), .e (.call 11 [(.t 65)]), []⟩,
    ⟨(some 67), (some (62, true)), .q (.bin .leq (.t 64) (.t 66)), []⟩,
    ⟨(some 68), none, .q (.pick (.t 62) (.t 67) (.v (.bool false))), []⟩,
    ⟨(some 69), none, .q (.mv (.t 68)), []⟩,
    ⟨(some 70), (some (69, true)), .q (.mv (.t 0)), []⟩,
    ⟨(some 71), (some (69, true)), .e (.call 11 [(.t 70)]), []⟩,
    ⟨(some 72), (some (69, true)), .q (.mv (.t 10)), []⟩,
    ⟨(some 73), (some (69, true)), .e (.call 11 [(.t 72)]), []⟩,
    ⟨(some 74), (some (69, true)), .q (.bin .leq (.t 71) (.t 73)), []⟩,
    ⟨(some 75), none, .q (.pick (.t 69) (.t 74) (.v (.bool false))), []⟩,
    ⟨(some 76), none, .q (.mv (.t 75)), []⟩,
    ⟨(some 77), (some (76, true)), .q (.mv (.t 8)), []⟩,
    ⟨(some 78), (some (76, true)), .q (.mv (.t 6)), []⟩,
    ⟨(some 79), (some (76, true)), .q (.bin .eql (.t 77) (.t 78)), []⟩,
    ⟨(some 80), (some (76, true)), .q (.mv (.t 79)), []⟩,
    ⟨(some 81), (some (80, false)), .q (.mv (.t 8)), []⟩,
    ⟨(some 82), (some (80, false)), .q (.mv (.t 10)), []⟩,
    ⟨(some 83), (some (80, false)), .q (.bin .eql (.t 81) (.t 82)), []⟩,
    ⟨(some 84), (some (76, true)), .q (.pick (.t 80) (.v (.bool true)) (.t 83)), []⟩,
    ⟨(some 85), none, .q (.pick (.t 76) (.t 84) (.v (.bool false))), []⟩,
    ⟨(some 86), none, .q (.mv (.t 85)), []⟩,
    ⟨(some 87), (some (86, true)), .q (.mv (.t 6)), []⟩,
    ⟨(some 88), (some (86, true)), .q (.mv (.t 0)), []⟩,
    ⟨(some 89), (some (86, true)), .q (.bin .neq (.t 87) (.t 88)), []⟩,
    ⟨(some 90), (some (86, true)), .q (.mv (.t 89)), []⟩,
    ⟨(some 91), (some (90, false)), .q (.mv (.t 10)), []⟩,
    ⟨(some 92), (some (90, false)), .q (.mv (.t 0)), []⟩,
    ⟨(some 93), (some (90, false)), .q (.bin .eql (.t 91) (.t 92)), []⟩,
    ⟨(some 94), (some (86, true)), .q (.pick (.t 90) (.v (.bool true)) (.t 93)), []⟩,
    ⟨(some 95), none, .q (.pick (.t 86) (.t 94) (.v (.bool false))), []⟩,
    ⟨(some 4), none, .q (.mv (.t 95)), []⟩]
def c3_21 : ACode := .seq c3_20 .ret
def c3_22 : ACode := .seq c3_19 c3_21
def c3_23 : ACode := .seq c3_14 c3_22
def c3_24 : ACode := .seq c3_9 c3_23
def c3_25 : ACode := .seq c3_8 c3_24
def c3_26 : ACode := .seq c3_7 c3_25
def c3_27 : ACode := .seq c3_6 c3_26
def c3_28 : ACode := .seq c3_5 c3_27
def c3_29 : ACode := .seq c3_0 c3_28
@[go_sem] theorem c3_0_wp : type_of% (wp_of c3_0.eq_1) := wp_of c3_0.eq_1
@[go_sem] theorem c3_1_wp : type_of% (wp_of c3_1.eq_1) := wp_of c3_1.eq_1
@[go_sem] theorem c3_2_wp : type_of% (wp_of c3_2.eq_1) := wp_of c3_2.eq_1
@[go_sem] theorem c3_3_wp : type_of% (wp_of c3_3.eq_1) := wp_of c3_3.eq_1
@[go_sem] theorem c3_4_wp : type_of% (wp_of c3_4.eq_1) := wp_of c3_4.eq_1
@[go_sem] theorem c3_5_wp : type_of% (wp_of c3_5.eq_1) := wp_of c3_5.eq_1
@[go_sem] theorem c3_6_wp : type_of% (wp_of c3_6.eq_1) := wp_of c3_6.eq_1
@[go_sem] theorem c3_7_wp : type_of% (wp_of c3_7.eq_1) := wp_of c3_7.eq_1
@[go_sem] theorem c3_8_wp : type_of% (wp_of c3_8.eq_1) := wp_of c3_8.eq_1
@[go_sem] theorem c3_9_wp : type_of% (wp_of c3_9.eq_1) := wp_of c3_9.eq_1
@[go_sem] theorem c3_10_wp : type_of% (wp_of c3_10.eq_1) := wp_of c3_10.eq_1
@[go_sem] theorem c3_11_wp : type_of% (wp_of c3_11.eq_1) := wp_of c3_11.eq_1
@[go_sem] theorem c3_12_wp : type_of% (wp_of c3_12.eq_1) := wp_of c3_12.eq_1
@[go_sem] theorem c3_13_wp : type_of% (wp_of c3_13.eq_1) := wp_of c3_13.eq_1
@[go_sem] theorem c3_14_wp : type_of% (wp_of c3_14.eq_1) := wp_of c3_14.eq_1
@[go_sem] theorem c3_15_wp : type_of% (wp_of c3_15.eq_1) := wp_of c3_15.eq_1
@[go_sem] theorem c3_16_wp : type_of% (wp_of c3_16.eq_1) := wp_of c3_16.eq_1
@[go_sem] theorem c3_17_wp : type_of% (wp_of c3_17.eq_1) := wp_of c3_17.eq_1
@[go_sem] theorem c3_18_wp : type_of% (wp_of c3_18.eq_1) := wp_of c3_18.eq_1
@[go_sem] theorem c3_19_wp : type_of% (wp_of c3_19.eq_1) := wp_of c3_19.eq_1
@[go_sem] theorem c3_20_wp : type_of% (wp_of c3_20.eq_1) := wp_of c3_20.eq_1
@[go_sem] theorem c3_21_wp : type_of% (wp_of c3_21.eq_1) := wp_of c3_21.eq_1
@[go_sem] theorem c3_22_wp : type_of% (wp_of c3_22.eq_1) := wp_of c3_22.eq_1
@[go_sem] theorem c3_23_wp : type_of% (wp_of c3_23.eq_1) := wp_of c3_23.eq_1
@[go_sem] theorem c3_24_wp : type_of% (wp_of c3_24.eq_1) := wp_of c3_24.eq_1
@[go_sem] theorem c3_25_wp : type_of% (wp_of c3_25.eq_1) := wp_of c3_25.eq_1
@[go_sem] theorem c3_26_wp : type_of% (wp_of c3_26.eq_1) := wp_of c3_26.eq_1
@[go_sem] theorem c3_27_wp : type_of% (wp_of c3_27.eq_1) := wp_of c3_27.eq_1
@[go_sem] theorem c3_28_wp : type_of% (wp_of c3_28.eq_1) := wp_of c3_28.eq_1
@[go_sem] theorem c3_29_wp : type_of% (wp_of c3_29.eq_1) := wp_of c3_29.eq_1
def c3 : AFn := ⟨96, [.t 4], c3_29⟩
set_option maxRecDepth 100000 in
theorem c3_ok : compF Tryd.prog Tryd.f3 = some c3 := by kernel_rfl
theorem a3 {args : List AV} {σ : ASt} {R : AV → ASt → Prop} (hl : args.length ≤ 96) (h : c3_29.wp Tryd.prog (RetQ [.t 4] R) (init args) σ) : ACalls Tryd.prog 3 args σ R := acalls_of Tryd.func3 c3_ok hl h

end Go.A
