/- The functions, compiled: by program (wip/gencode.py). -/
import Derived.Test.YtmefepbdognkdaaGreatDoorBk
import Derived.Test.YtmefepbdognkdaaGreatDoorProg
import Derived.KernelRfl
namespace Go.A
open Go.Proofs

/-! 5: tabular/tabularlaw15.ValueFails -/
def c5_0 : ACode := .ops [
    ⟨(some 3), none, .e (.box (.t 0)), []⟩,
    ⟨(some 6), none, .q (.mv (.v (.bool false))), []⟩]
def c5_1 : ACode := .ops [
    ⟨(some 17), none, .q (.mv (.t 1)), []⟩,
    ⟨(some 18), none, .q (.bin .lss (.t 17) (.v (.int .i64 1))), []⟩,
    ⟨(some 19), none, .q (.mv (.t 18)), []⟩,
    ⟨(some 20), (some (19, false)), .q (.mv (.t 1)), []⟩,
    ⟨(some 21), (some (19, false)), .q (.bin .gtr (.t 20) (.v (.int .i64 7))), []⟩,
    ⟨(some 22), none, .q (.pick (.t 19) (.v (.bool true)) (.t 21)), []⟩,
    ⟨(some 23), none, .q (.mv (.t 22)), []⟩,
    ⟨(some 24), (some (23, false)), .q (.mv (.t 2)), []⟩,
    ⟨(some 25), (some (23, false)), .q (.bin .lss (.t 24) (.v (.int .i64 0))), []⟩,
    ⟨(some 26), none, .q (.pick (.t 23) (.v (.bool true)) (.t 25)), []⟩,
    ⟨(some 27), none, .q (.mv (.t 26)), []⟩,
    ⟨(some 28), (some (27, false)), .q (.mv (.t 2)), []⟩,
    ⟨(some 29), (some (27, false)), .q (.bin .gtr (.t 28) (.v (.int .i64 4))), []⟩,
    ⟨(some 30), none, .q (.pick (.t 27) (.v (.bool true)) (.t 29)), []⟩]
def c5_2 : ACode := .ops [
    ⟨(some 31), none, .e (.call 18 []), []⟩,
    ⟨(some 6), none, .q (.mv (.t 31)), []⟩]
def c5_3 : ACode := .seq c5_2 .ret
def c5_4 : ACode := .cond (.t 30) c5_3 .skip
def c5_5 : ACode := .seq c5_1 c5_4
def c5_6 : ACode := .ops [
    ⟨(some 32), none, .q (.fa 2 (.t 3)), []⟩,
    ⟨(some 33), none, .q (.ld none (.t 32)), []⟩,
    ⟨(some 34), none, .e (.call 7 [(.t 33), (.v (.int .i64 100))]), []⟩,
    ⟨(some 35), none, .q (.fa 2 (.t 3)), []⟩,
    ⟨none, none, .e (.store 1 (.t 35) (.t 34)), []⟩]
def c5_7 : ACode := .ops [
    ⟨(some 37), none, .q (.ld (some 3) (.t 3)), []⟩,
    ⟨(some 38), none, .e (.call 17 [(.t 37)]), []⟩,
    ⟨(some 36), none, .q (.mv (.t 38)), []⟩,
    ⟨(some 39), none, .q (.ext 0 (.t 36)), []⟩,
    ⟨(some 40), none, .q (.ext 1 (.t 36)), []⟩,
    ⟨(some 8), none, .e (.alloc [(.int .i64 0), (.int .i64 0), (.str [])]), []⟩,
    ⟨(some 7), none, .q (.mv (.t 39)), []⟩,
    ⟨none, none, .e (.store 3 (.t 8) (.t 40)), []⟩]
def c5_8 : ACode := .ops [
    ⟨(some 41), none, .q (.mv (.t 1)), []⟩,
    ⟨(some 9), none, .q (.mv (.t 41)), []⟩]
def c5_9 : ACode := .ops [
    ⟨(some 42), none, .q (.mv (.t 9)), []⟩,
    ⟨(some 43), none, .q (.mki 51 (.t 42)), []⟩,
    ⟨(some 10), none, .q (.mv (.t 43)), []⟩]
def c5_10 : ACode := .ops [
    ⟨(some 44), none, .q (.fa 0 (.t 8)), []⟩,
    ⟨(some 45), none, .q (.ld none (.t 44)), []⟩,
    ⟨(some 46), none, .q (.bin .eql (.t 45) (.v (.int .i64 4))), []⟩]
def c5_11 : ACode := .ops [
    ⟨(some 47), none, .q (.mv (.t 7)), []⟩,
    ⟨(some 10), none, .q (.mv (.t 47)), []⟩]
def c5_12 : ACode := .cond (.t 46) c5_11 .skip
def c5_13 : ACode := .seq c5_10 c5_12
def c5_14 : ACode := .ops [
    ⟨(some 49), none, .q (.mv (.t 9)), []⟩,
    ⟨(some 50), none, .q (.mki 51 (.t 49)), []⟩,
    ⟨(some 51), none, .e (.call 27 [(.t 50)]), []⟩,
    ⟨(some 48), none, .q (.mv (.t 51)), []⟩,
    ⟨(some 52), none, .q (.ext 0 (.t 48)), []⟩,
    ⟨(some 53), none, .q (.ext 1 (.t 48)), []⟩,
    ⟨(some 11), none, .q (.mv (.t 52)), []⟩,
    ⟨(some 12), none, .q (.mv (.t 53)), []⟩]
def c5_15 : ACode := .ops [
    ⟨(some 55), none, .q (.mv (.t 9)), []⟩,
    ⟨(some 56), none, .q (.mki 51 (.t 55)), []⟩,
    ⟨(some 57), none, .e (.call 28 [(.t 56)]), []⟩,
    ⟨(some 54), none, .q (.mv (.t 57)), []⟩,
    ⟨(some 58), none, .q (.ext 0 (.t 54)), []⟩,
    ⟨(some 59), none, .q (.ext 1 (.t 54)), []⟩,
    ⟨(some 13), none, .q (.mv (.t 58)), []⟩,
    ⟨(some 14), none, .q (.mv (.t 59)), []⟩]
def c5_16 : ACode := .ops [
    ⟨(some 61), none, .q (.mv (.t 9)), []⟩,
    ⟨(some 62), none, .q (.mki 51 (.t 61)), []⟩,
    ⟨(some 63), none, .e (.call 29 [(.t 62)]), []⟩,
    ⟨(some 60), none, .q (.mv (.t 63)), []⟩,
    ⟨(some 64), none, .q (.ext 0 (.t 60)), []⟩,
    ⟨(some 65), none, .q (.ext 1 (.t 60)), []⟩,
    ⟨(some 15), none, .q (.mv (.t 64)), []⟩,
    ⟨(some 16), none, .q (.mv (.t 65)), []⟩]
def c5_17 : ACode := .ops [
    ⟨(some 66), none, .e (.call 18 []), []⟩,
    ⟨(some 67), none, .q (.mv (.t 66)), []⟩,
    ⟨(some 68), (some (67, true)), .q (.mv (.t 12)), []⟩,
    ⟨(some 69), (some (67, true)), .q (.mv (.t 9)), []⟩,
    ⟨(some 70), (some (67, true)), .q (.bin .eql (.t 68) (.t 69)), []⟩,
    ⟨(some 71), none, .q (.pick (.t 67) (.t 70) (.v (.bool false))), []⟩,
    ⟨(some 72), none, .q (.mv (.t 71)), []⟩,
    ⟨(some 73), (some (72, true)), .q (.mv (.t 14)), []⟩,
    ⟨(some 74), (some (72, true)), .q (.mv (.t 9)), []⟩,
    ⟨(some 75), (some (72, true)), .q (.bin .eql (.t 73) (.t 74)), []⟩,
    ⟨(some 76), none, .q (.pick (.t 72) (.t 75) (.v (.bool false))), []⟩,
    ⟨(some 77), none, .q (.mv (.t 76)), []⟩,
    ⟨(some 78), (some (77, true)), .q (.mv (.t 16)), []⟩,
    ⟨(some 79), (some (77, true)), .q (.mv (.t 9)), []⟩,
    ⟨(some 80), (some (77, true)), .q (.bin .eql (.t 78) (.t 79)), []⟩,
    ⟨(some 81), none, .q (.pick (.t 77) (.t 80) (.v (.bool false))), []⟩,
    ⟨(some 82), none, .q (.mv (.t 81)), []⟩,
    ⟨(some 83), (some (82, true)), .q (.mv (.t 2)), []⟩,
    ⟨(some 84), (some (82, true)), .q (.mv (.t 7)), []⟩,
    ⟨(some 85), (some (82, true)), .q (.mv (.t 9)), []⟩,
    ⟨(some 86), (some (82, true)), .q (.mki 51 (.t 85)), []⟩,
    ⟨(some 87), (some (82, true)), .e (.call 23 [(.t 83), (.t 84), (.t 86)]), []⟩,
    ⟨(some 88), (some (82, true)), .e (.call 12 [(.t 87)]), []⟩,
    ⟨(some 89), (some (82, true)), .q (.mv (.t 10)), []⟩,
    ⟨(some 90), (some (82, true)), .e (.call 12 [(.t 89)]), []⟩,
    ⟨(some 91), (some (82, true)), .q (.eqs false [(0, 0), (1, 0), (2, 2)] (.t 88) (.t 90)), []⟩,
    ⟨(some 92), none, .q (.pick (.t 82) (.t 91) (.v (.bool false))), []⟩,
    ⟨(some 93), none, .q (.mv (.t 92)), []⟩,
    ⟨(some 94), (some (93, true)), .q (.mv (.t 2)), []⟩,
    ⟨(some 95), (some (93, true)), .q (.mv (.t 9)), []⟩,
    ⟨(some 96), (some (93, true)), .q (.mki 51 (.t 95)), []⟩,
    ⟨(some 97), (some (93, true)), .q (.mv (.t 7)), []⟩,
    ⟨(some 98), (some (93, true)), .e (.call 25 [(.t 94), (.t 96), (.t 97)]), []⟩,
    ⟨(some 99), (some (93, true)), .e (.call 12 [(.t 98)]), []⟩,
    ⟨(some 100), (some (93, true)), .q (.mv (.t 9)), []⟩,
    ⟨(some 101), (some (93, true)), .q (.mki 51 (.t 100)), []⟩,
    ⟨(some 102), (some (93, true)), .e (.call 12 [(.t 101)]), []⟩,
    ⟨(some 103), (some (93, true)), .q (.eqs false [(0, 0), (1, 0), (2, 2)] (.t 99) (.t 102)), []⟩,
    ⟨(some 104), none, .q (.pick (.t 93) (.t 103) (.v (.bool false))), []⟩,
    ⟨(some 105), none, .q (.mv (.t 104)), []⟩,
    ⟨(some 106), (some (105, true)), .q (.mv (.t 7)), []⟩,
    ⟨(some 107), (some (105, true)), .q (.mv (.t 9)), []⟩,
    ⟨(some 108), (some (105, true)), .q (.mki 51 (.t 107)), []⟩,
    ⟨(some 109), (some (105, true)), .e (.call 19 [(.t 106), (.t 108)]), []⟩,
    ⟨(some 110), (some (105, true)), .e (.call 12 [(.t 109)]), []⟩,
    ⟨(some 111), (some (105, true)), .q (.mv (.t 10)), []⟩,
    ⟨(some 112), (some (105, true)), .e (.call 12 [(.t 111)]), []⟩,
    ⟨(some 113), (some (105, true)), .q (.eqs false [(0, 0), (1, 0), (2, 2)] (.t 110) (.t 112)), []⟩,
    ⟨(some 114), none, .q (.pick (.t 105) (.t 113) (.v (.bool false))), []⟩,
    ⟨(some 115), none, .q (.mv (.t 114)), []⟩,
    ⟨(some 116), (some (115, true)), .q (.mv (.t 2)), []⟩,
    ⟨(some 117), (some (115, true)), .q (.mv (.t 9)), []⟩,
    ⟨(some 118), (some (115, true)), .q (.mki 51 (.t 117)), []⟩,
    ⟨(some 119), (some (115, true)), .q (.mv (.t 7)), []⟩,
    ⟨(some 120), (some (115, true)), .e (.call 23 [(.t 116), (.t 118), (.t 119)]), []⟩,
    ⟨(some 121), (some (115, true)), .e (.call 12 [(.t 120)]), []⟩,
    ⟨(some 122), (some (115, true)), .q (.mv (.t 9)), []⟩,
    ⟨(some 123), (some (115, true)), .q (.mki 51 (.t 122)), []⟩,
    ⟨(some 124), (some (115, true)), .e (.call 12 [(.t 123)]), []⟩,
    ⟨(some 125), (some (115, true)), .q (.eqs false [(0, 0), (1, 0), (2, 2)] (.t 121) (.t 124)), []⟩,
    ⟨(some 126), none, .q (.pick (.t 115) (.t 125) (.v (.bool false))), []⟩,
    ⟨(some 6), none, .q (.mv (.t 126)), []⟩]
def c5_18 : ACode := .seq c5_17 .ret
def c5_19 : ACode := .seq c5_16 c5_18
def c5_20 : ACode := .seq c5_15 c5_19
def c5_21 : ACode := .seq c5_14 c5_20
def c5_22 : ACode := .seq c5_13 c5_21
def c5_23 : ACode := .seq c5_9 c5_22
def c5_24 : ACode := .seq c5_8 c5_23
def c5_25 : ACode := .seq c5_7 c5_24
def c5_26 : ACode := .seq c5_6 c5_25
def c5_27 : ACode := .seq c5_5 c5_26
def c5_28 : ACode := .seq c5_0 c5_27
@[go_sem] theorem c5_0_wp : type_of% (wp_of c5_0.eq_1) := wp_of c5_0.eq_1
@[go_sem] theorem c5_1_wp : type_of% (wp_of c5_1.eq_1) := wp_of c5_1.eq_1
@[go_sem] theorem c5_2_wp : type_of% (wp_of c5_2.eq_1) := wp_of c5_2.eq_1
@[go_sem] theorem c5_3_wp : type_of% (wp_of c5_3.eq_1) := wp_of c5_3.eq_1
@[go_sem] theorem c5_4_wp : type_of% (wp_of c5_4.eq_1) := wp_of c5_4.eq_1
@[go_sem] theorem c5_5_wp : type_of% (wp_of c5_5.eq_1) := wp_of c5_5.eq_1
@[go_sem] theorem c5_6_wp : type_of% (wp_of c5_6.eq_1) := wp_of c5_6.eq_1
@[go_sem] theorem c5_7_wp : type_of% (wp_of c5_7.eq_1) := wp_of c5_7.eq_1
@[go_sem] theorem c5_8_wp : type_of% (wp_of c5_8.eq_1) := wp_of c5_8.eq_1
@[go_sem] theorem c5_9_wp : type_of% (wp_of c5_9.eq_1) := wp_of c5_9.eq_1
@[go_sem] theorem c5_10_wp : type_of% (wp_of c5_10.eq_1) := wp_of c5_10.eq_1
@[go_sem] theorem c5_11_wp : type_of% (wp_of c5_11.eq_1) := wp_of c5_11.eq_1
@[go_sem] theorem c5_12_wp : type_of% (wp_of c5_12.eq_1) := wp_of c5_12.eq_1
@[go_sem] theorem c5_13_wp : type_of% (wp_of c5_13.eq_1) := wp_of c5_13.eq_1
@[go_sem] theorem c5_14_wp : type_of% (wp_of c5_14.eq_1) := wp_of c5_14.eq_1
@[go_sem] theorem c5_15_wp : type_of% (wp_of c5_15.eq_1) := wp_of c5_15.eq_1
@[go_sem] theorem c5_16_wp : type_of% (wp_of c5_16.eq_1) := wp_of c5_16.eq_1
@[go_sem] theorem c5_17_wp : type_of% (wp_of c5_17.eq_1) := wp_of c5_17.eq_1
@[go_sem] theorem c5_18_wp : type_of% (wp_of c5_18.eq_1) := wp_of c5_18.eq_1
@[go_sem] theorem c5_19_wp : type_of% (wp_of c5_19.eq_1) := wp_of c5_19.eq_1
@[go_sem] theorem c5_20_wp : type_of% (wp_of c5_20.eq_1) := wp_of c5_20.eq_1
@[go_sem] theorem c5_21_wp : type_of% (wp_of c5_21.eq_1) := wp_of c5_21.eq_1
@[go_sem] theorem c5_22_wp : type_of% (wp_of c5_22.eq_1) := wp_of c5_22.eq_1
@[go_sem] theorem c5_23_wp : type_of% (wp_of c5_23.eq_1) := wp_of c5_23.eq_1
@[go_sem] theorem c5_24_wp : type_of% (wp_of c5_24.eq_1) := wp_of c5_24.eq_1
@[go_sem] theorem c5_25_wp : type_of% (wp_of c5_25.eq_1) := wp_of c5_25.eq_1
@[go_sem] theorem c5_26_wp : type_of% (wp_of c5_26.eq_1) := wp_of c5_26.eq_1
@[go_sem] theorem c5_27_wp : type_of% (wp_of c5_27.eq_1) := wp_of c5_27.eq_1
@[go_sem] theorem c5_28_wp : type_of% (wp_of c5_28.eq_1) := wp_of c5_28.eq_1
def c5 : AFn := ⟨127, [.t 6], c5_28⟩
set_option maxRecDepth 100000 in
theorem c5_ok : compF Tryz.prog Tryz.f5 = some c5 := by kernel_rfl
theorem a5 {args : List AV} {σ : ASt} {R : AV → ASt → Prop} (hl : args.length ≤ 127) (h : c5_28.wp Tryz.prog (RetQ [.t 6] R) (init args) σ) : ACalls Tryz.prog 5 args σ R := acalls_of Tryz.func5 c5_ok hl h

/-! 12: tabular/tabularlaw15.Told -/
def c12_0 : ACode := .ops [
    ⟨(some 2), none, .e (.alloc [(.int .i64 0), (.int .i64 0), (.str [])]), []⟩]
def c12_1 : ACode := .ops [
    ⟨(some 4), none, .q (.mv (.t 0)), []⟩,
    ⟨(some 5), none, .e (.call 37 [(.t 4)]), []⟩,
    ⟨(some 3), none, .e (.alloc [(.int .i64 0), (.int .i64 0), (.str [])]), []⟩,
    ⟨none, none, .e (.store 3 (.t 3) (.t 5)), []⟩]
def c12_2 : ACode := .ops [
    ⟨(some 6), none, .q (.fa 0 (.t 3)), []⟩,
    ⟨(some 7), none, .q (.ld none (.t 6)), []⟩,
    ⟨(some 8), none, .q (.fa 1 (.t 3)), []⟩,
    ⟨(some 9), none, .q (.ld none (.t 8)), []⟩,
    ⟨(some 10), none, .q (.fa 2 (.t 3)), []⟩,
    ⟨(some 11), none, .q (.ld none (.t 10)), []⟩,
    ⟨(some 12), none, .q (.build [(.int .i64 0), (.int .i64 0), (.str [])] [(0, 1, (.t 7)), (1, 1, (.t 9)), (2, 1, (.t 11))]), []⟩,
    ⟨none, none, .e (.store 3 (.t 2) (.t 12)), []⟩]
def c12_3 : ACode := .seq c12_2 .ret
def c12_4 : ACode := .seq c12_1 c12_3
def c12_5 : ACode := .seq c12_0 c12_4
@[go_sem] theorem c12_0_wp : type_of% (wp_of c12_0.eq_1) := wp_of c12_0.eq_1
@[go_sem] theorem c12_1_wp : type_of% (wp_of c12_1.eq_1) := wp_of c12_1.eq_1
@[go_sem] theorem c12_2_wp : type_of% (wp_of c12_2.eq_1) := wp_of c12_2.eq_1
@[go_sem] theorem c12_3_wp : type_of% (wp_of c12_3.eq_1) := wp_of c12_3.eq_1
@[go_sem] theorem c12_4_wp : type_of% (wp_of c12_4.eq_1) := wp_of c12_4.eq_1
@[go_sem] theorem c12_5_wp : type_of% (wp_of c12_5.eq_1) := wp_of c12_5.eq_1
def c12 : AFn := ⟨13, [.c 2 (some 3)], c12_5⟩
set_option maxRecDepth 100000 in
theorem c12_ok : compF Tryz.prog Tryz.f12 = some c12 := by kernel_rfl
theorem a12 {args : List AV} {σ : ASt} {R : AV → ASt → Prop} (hl : args.length ≤ 13) (h : c12_5.wp Tryz.prog (RetQ [.c 2 (some 3)] R) (init args) σ) : ACalls Tryz.prog 12 args σ R := acalls_of Tryz.func12 c12_ok hl h

/-! 19: tabular/value.Join -/
def c19_0 : ACode := .ops [
    ⟨(some 4), none, .q (.mv (.v .nili)), []⟩]
def c19_1 : ACode := .ops [
    ⟨(some 9), none, .q (.mv (.t 0)), []⟩,
    ⟨(some 10), none, .e (.call 28 [(.t 9)]), []⟩,
    ⟨(some 8), none, .q (.mv (.t 10)), []⟩,
    ⟨(some 11), none, .q (.ext 0 (.t 8)), []⟩,
    ⟨(some 12), none, .q (.ext 1 (.t 8)), []⟩,
    ⟨(some 5), none, .q (.mv (.t 11)), []⟩,
    ⟨(some 6), none, .q (.mv (.t 12)), []⟩]
def c19_2 : ACode := .ops [
    ⟨(some 13), none, .q (.mv (.t 6)), []⟩,
    ⟨(some 14), none, .q (.bin .neq (.t 13) (.v (.int .i64 0))), []⟩]
def c19_3 : ACode := .ops [
    ⟨(some 15), none, .q (.mv (.t 6)), []⟩,
    ⟨(some 16), none, .q (.mki 51 (.t 15)), []⟩,
    ⟨(some 4), none, .q (.mv (.t 16)), []⟩]
def c19_4 : ACode := .seq c19_3 .ret
def c19_5 : ACode := .cond (.t 14) c19_4 .skip
def c19_6 : ACode := .seq c19_2 c19_5
def c19_7 : ACode := .ops [
    ⟨(some 18), none, .q (.mv (.t 1)), []⟩,
    ⟨(some 19), none, .e (.call 28 [(.t 18)]), []⟩,
    ⟨(some 17), none, .q (.mv (.t 19)), []⟩,
    ⟨(some 20), none, .q (.ext 0 (.t 17)), []⟩,
    ⟨(some 21), none, .q (.ext 1 (.t 17)), []⟩,
    ⟨(some 7), none, .q (.mv (.t 20)), []⟩,
    ⟨(some 6), none, .q (.mv (.t 21)), []⟩]
def c19_8 : ACode := .ops [
    ⟨(some 22), none, .q (.mv (.t 6)), []⟩,
    ⟨(some 23), none, .q (.bin .neq (.t 22) (.v (.int .i64 0))), []⟩]
def c19_9 : ACode := .ops [
    ⟨(some 24), none, .q (.mv (.t 6)), []⟩,
    ⟨(some 25), none, .q (.mki 51 (.t 24)), []⟩,
    ⟨(some 4), none, .q (.mv (.t 25)), []⟩]
def c19_10 : ACode := .seq c19_9 .ret
def c19_11 : ACode := .cond (.t 23) c19_10 .skip
def c19_12 : ACode := .seq c19_8 c19_11
def c19_13 : ACode := .ops [
    ⟨(some 26), none, .q (.mv (.t 5)), []⟩,
    ⟨(some 27), none, .q (.mv (.t 7)), []⟩,
    ⟨(some 28), none, .q (.bin .add (.t 26) (.t 27)), []⟩,
    ⟨(some 29), none, .e (.call 82 [(.t 28)]), []⟩,
    ⟨(some 4), none, .q (.mv (.t 29)), []⟩]
def c19_14 : ACode := .seq c19_13 .ret
def c19_15 : ACode := .seq c19_12 c19_14
def c19_16 : ACode := .seq c19_7 c19_15
def c19_17 : ACode := .seq c19_6 c19_16
def c19_18 : ACode := .seq c19_1 c19_17
def c19_19 : ACode := .seq c19_0 c19_18
@[go_sem] theorem c19_0_wp : type_of% (wp_of c19_0.eq_1) := wp_of c19_0.eq_1
@[go_sem] theorem c19_1_wp : type_of% (wp_of c19_1.eq_1) := wp_of c19_1.eq_1
@[go_sem] theorem c19_2_wp : type_of% (wp_of c19_2.eq_1) := wp_of c19_2.eq_1
@[go_sem] theorem c19_3_wp : type_of% (wp_of c19_3.eq_1) := wp_of c19_3.eq_1
@[go_sem] theorem c19_4_wp : type_of% (wp_of c19_4.eq_1) := wp_of c19_4.eq_1
@[go_sem] theorem c19_5_wp : type_of% (wp_of c19_5.eq_1) := wp_of c19_5.eq_1
@[go_sem] theorem c19_6_wp : type_of% (wp_of c19_6.eq_1) := wp_of c19_6.eq_1
@[go_sem] theorem c19_7_wp : type_of% (wp_of c19_7.eq_1) := wp_of c19_7.eq_1
@[go_sem] theorem c19_8_wp : type_of% (wp_of c19_8.eq_1) := wp_of c19_8.eq_1
@[go_sem] theorem c19_9_wp : type_of% (wp_of c19_9.eq_1) := wp_of c19_9.eq_1
@[go_sem] theorem c19_10_wp : type_of% (wp_of c19_10.eq_1) := wp_of c19_10.eq_1
@[go_sem] theorem c19_11_wp : type_of% (wp_of c19_11.eq_1) := wp_of c19_11.eq_1
@[go_sem] theorem c19_12_wp : type_of% (wp_of c19_12.eq_1) := wp_of c19_12.eq_1
@[go_sem] theorem c19_13_wp : type_of% (wp_of c19_13.eq_1) := wp_of c19_13.eq_1
@[go_sem] theorem c19_14_wp : type_of% (wp_of c19_14.eq_1) := wp_of c19_14.eq_1
@[go_sem] theorem c19_15_wp : type_of% (wp_of c19_15.eq_1) := wp_of c19_15.eq_1
@[go_sem] theorem c19_16_wp : type_of% (wp_of c19_16.eq_1) := wp_of c19_16.eq_1
@[go_sem] theorem c19_17_wp : type_of% (wp_of c19_17.eq_1) := wp_of c19_17.eq_1
@[go_sem] theorem c19_18_wp : type_of% (wp_of c19_18.eq_1) := wp_of c19_18.eq_1
@[go_sem] theorem c19_19_wp : type_of% (wp_of c19_19.eq_1) := wp_of c19_19.eq_1
def c19 : AFn := ⟨30, [.t 4], c19_19⟩
set_option maxRecDepth 100000 in
theorem c19_ok : compF Tryz.prog Tryz.f19 = some c19 := by kernel_rfl
theorem a19 {args : List AV} {σ : ASt} {R : AV → ASt → Prop} (hl : args.length ≤ 30) (h : c19_19.wp Tryz.prog (RetQ [.t 4] R) (init args) σ) : ACalls Tryz.prog 19 args σ R := acalls_of Tryz.func19 c19_ok hl h

/-! 23: tabular/value.Hold -/
def c23_0 : ACode := .ops [
    ⟨(some 6), none, .q (.mv (.v .nili)), []⟩]
def c23_1 : ACode := .ops [
    ⟨(some 13), none, .q (.mv (.t 1)), []⟩,
    ⟨(some 14), none, .e (.call 91 [(.t 13)]), []⟩,
    ⟨(some 12), none, .q (.mv (.t 14)), []⟩,
    ⟨(some 15), none, .q (.ext 0 (.t 12)), []⟩,
    ⟨(some 16), none, .q (.ext 1 (.t 12)), []⟩,
    ⟨(some 7), none, .q (.mv (.t 15)), []⟩,
    ⟨(some 8), none, .q (.mv (.t 16)), []⟩]
def c23_2 : ACode := .ops [
    ⟨(some 17), none, .q (.mv (.t 8)), []⟩]
def c23_3 : ACode := .ops [
    ⟨(some 18), none, .q (.mv (.t 7)), []⟩,
    ⟨(some 19), none, .q (.mki 51 (.t 18)), []⟩,
    ⟨(some 6), none, .q (.mv (.t 19)), []⟩]
def c23_4 : ACode := .seq c23_3 .ret
def c23_5 : ACode := .cond (.t 17) c23_4 .skip
def c23_6 : ACode := .seq c23_2 c23_5
def c23_7 : ACode := .seq c23_1 c23_6
def c23_8 : ACode := .ops [
    ⟨(some 21), none, .q (.mv (.t 2)), []⟩,
    ⟨(some 22), none, .e (.call 91 [(.t 21)]), []⟩,
    ⟨(some 20), none, .q (.mv (.t 22)), []⟩,
    ⟨(some 23), none, .q (.ext 0 (.t 20)), []⟩,
    ⟨(some 24), none, .q (.ext 1 (.t 20)), []⟩,
    ⟨(some 9), none, .q (.mv (.t 23)), []⟩,
    ⟨(some 10), none, .q (.mv (.t 24)), []⟩]
def c23_9 : ACode := .ops [
    ⟨(some 25), none, .q (.mv (.t 10)), []⟩]
def c23_10 : ACode := .ops [
    ⟨(some 26), none, .q (.mv (.t 9)), []⟩,
    ⟨(some 27), none, .q (.mki 51 (.t 26)), []⟩,
    ⟨(some 6), none, .q (.mv (.t 27)), []⟩]
def c23_11 : ACode := .seq c23_10 .ret
def c23_12 : ACode := .cond (.t 25) c23_11 .skip
def c23_13 : ACode := .seq c23_9 c23_12
def c23_14 : ACode := .seq c23_8 c23_13
def c23_15 : ACode := .ops [
    ⟨(some 28), none, .q (.mv (.t 1)), []⟩,
    ⟨(some 29), none, .q (.mv (.t 2)), []⟩,
    ⟨(some 30), none, .e (.call 21 [(.t 28), (.t 29)]), []⟩,
    ⟨(some 11), none, .q (.mv (.t 30)), []⟩]
def c23_16 : ACode := .ops [
    ⟨(some 31), none, .q (.mv (.t 0)), []⟩]
def c23_17 : ACode := .ops [
    ⟨(some 33), none, .q (.bin .eql (.t 31) (.v (.int .i64 0))), []⟩,
    ⟨(some 32), none, .q (.mv (.t 33)), []⟩]
def c23_18 : ACode := .ops [
    ⟨(some 34), none, .q (.mv (.t 11)), []⟩,
    ⟨(some 35), none, .q (.bin .eql (.t 34) (.v (.int .i64 0))), []⟩,
    ⟨(some 36), none, .q (.mki 127 (.t 35)), []⟩,
    ⟨(some 6), none, .q (.mv (.t 36)), []⟩]
def c23_19 : ACode := .seq c23_18 .ret
def c23_20 : ACode := .ops [
    ⟨(some 38), none, .q (.bin .eql (.t 31) (.v (.int .i64 1))), []⟩,
    ⟨(some 37), none, .q (.mv (.t 38)), []⟩]
def c23_21 : ACode := .ops [
    ⟨(some 39), none, .q (.mv (.t 11)), []⟩,
    ⟨(some 40), none, .q (.bin .neq (.t 39) (.v (.int .i64 0))), []⟩,
    ⟨(some 41), none, .q (.mki 127 (.t 40)), []⟩,
    ⟨(some 6), none, .q (.mv (.t 41)), []⟩]
def c23_22 : ACode := .seq c23_21 .ret
def c23_23 : ACode := .ops [
    ⟨(some 43), none, .q (.bin .eql (.t 31) (.v (.int .i64 2))), []⟩,
    ⟨(some 42), none, .q (.mv (.t 43)), []⟩]
def c23_24 : ACode := .ops [
    ⟨(some 44), none, .q (.mv (.t 11)), []⟩,
    ⟨(some 45), none, .q (.bin .lss (.t 44) (.v (.int .i64 0))), []⟩,
    ⟨(some 46), none, .q (.mki 127 (.t 45)), []⟩,
    ⟨(some 6), none, .q (.mv (.t 46)), []⟩]
def c23_25 : ACode := .seq c23_24 .ret
def c23_26 : ACode := .ops [
    ⟨(some 48), none, .q (.bin .eql (.t 31) (.v (.int .i64 3))), []⟩,
    ⟨(some 47), none, .q (.mv (.t 48)), []⟩]
def c23_27 : ACode := .ops [
    ⟨(some 49), none, .q (.mv (.t 11)), []⟩,
    ⟨(some 50), none, .q (.bin .leq (.t 49) (.v (.int .i64 0))), []⟩,
    ⟨(some 51), none, .q (.mki 127 (.t 50)), []⟩,
    ⟨(some 6), none, .q (.mv (.t 51)), []⟩]
def c23_28 : ACode := .seq c23_27 .ret
def c23_29 : ACode := .ops [
    ⟨(some 53), none, .q (.bin .eql (.t 31) (.v (.int .i64 4))), []⟩,
    ⟨(some 52), none, .q (.mv (.t 53)), []⟩]
def c23_30 : ACode := .ops [
    ⟨(some 54), none, .q (.mv (.t 11)), []⟩,
    ⟨(some 55), none, .q (.bin .gtr (.t 54) (.v (.int .i64 0))), []⟩,
    ⟨(some 56), none, .q (.mki 127 (.t 55)), []⟩,
    ⟨(some 6), none, .q (.mv (.t 56)), []⟩]
def c23_31 : ACode := .seq c23_30 .ret
def c23_32 : ACode := .cond (.t 52) c23_31 .skip
def c23_33 : ACode := .seq c23_29 c23_32
def c23_34 : ACode := .cond (.t 47) c23_28 c23_33
def c23_35 : ACode := .seq c23_26 c23_34
def c23_36 : ACode := .cond (.t 42) c23_25 c23_35
def c23_37 : ACode := .seq c23_23 c23_36
def c23_38 : ACode := .cond (.t 37) c23_22 c23_37
def c23_39 : ACode := .seq c23_20 c23_38
def c23_40 : ACode := .cond (.t 32) c23_19 c23_39
def c23_41 : ACode := .seq c23_17 c23_40
def c23_42 : ACode := .block 0 c23_41
def c23_43 : ACode := .seq c23_16 c23_42
def c23_44 : ACode := .ops [
    ⟨(some 57), none, .q (.mv (.t 11)), []⟩,
    ⟨(some 58), none, .q (.bin .geq (.t 57) (.v (.int .i64 0))), []⟩,
    ⟨(some 59), none, .q (.mki 127 (.t 58)), []⟩,
    ⟨(some 6), none, .q (.mv (.t 59)), []⟩]
def c23_45 : ACode := .seq c23_44 .ret
def c23_46 : ACode := .seq c23_43 c23_45
def c23_47 : ACode := .seq c23_15 c23_46
def c23_48 : ACode := .seq c23_14 c23_47
def c23_49 : ACode := .seq c23_7 c23_48
def c23_50 : ACode := .seq c23_0 c23_49
@[go_sem] theorem c23_0_wp : type_of% (wp_of c23_0.eq_1) := wp_of c23_0.eq_1
@[go_sem] theorem c23_1_wp : type_of% (wp_of c23_1.eq_1) := wp_of c23_1.eq_1
@[go_sem] theorem c23_2_wp : type_of% (wp_of c23_2.eq_1) := wp_of c23_2.eq_1
@[go_sem] theorem c23_3_wp : type_of% (wp_of c23_3.eq_1) := wp_of c23_3.eq_1
@[go_sem] theorem c23_4_wp : type_of% (wp_of c23_4.eq_1) := wp_of c23_4.eq_1
@[go_sem] theorem c23_5_wp : type_of% (wp_of c23_5.eq_1) := wp_of c23_5.eq_1
@[go_sem] theorem c23_6_wp : type_of% (wp_of c23_6.eq_1) := wp_of c23_6.eq_1
@[go_sem] theorem c23_7_wp : type_of% (wp_of c23_7.eq_1) := wp_of c23_7.eq_1
@[go_sem] theorem c23_8_wp : type_of% (wp_of c23_8.eq_1) := wp_of c23_8.eq_1
@[go_sem] theorem c23_9_wp : type_of% (wp_of c23_9.eq_1) := wp_of c23_9.eq_1
@[go_sem] theorem c23_10_wp : type_of% (wp_of c23_10.eq_1) := wp_of c23_10.eq_1
@[go_sem] theorem c23_11_wp : type_of% (wp_of c23_11.eq_1) := wp_of c23_11.eq_1
@[go_sem] theorem c23_12_wp : type_of% (wp_of c23_12.eq_1) := wp_of c23_12.eq_1
@[go_sem] theorem c23_13_wp : type_of% (wp_of c23_13.eq_1) := wp_of c23_13.eq_1
@[go_sem] theorem c23_14_wp : type_of% (wp_of c23_14.eq_1) := wp_of c23_14.eq_1
@[go_sem] theorem c23_15_wp : type_of% (wp_of c23_15.eq_1) := wp_of c23_15.eq_1
@[go_sem] theorem c23_16_wp : type_of% (wp_of c23_16.eq_1) := wp_of c23_16.eq_1
@[go_sem] theorem c23_17_wp : type_of% (wp_of c23_17.eq_1) := wp_of c23_17.eq_1
@[go_sem] theorem c23_18_wp : type_of% (wp_of c23_18.eq_1) := wp_of c23_18.eq_1
@[go_sem] theorem c23_19_wp : type_of% (wp_of c23_19.eq_1) := wp_of c23_19.eq_1
@[go_sem] theorem c23_20_wp : type_of% (wp_of c23_20.eq_1) := wp_of c23_20.eq_1
@[go_sem] theorem c23_21_wp : type_of% (wp_of c23_21.eq_1) := wp_of c23_21.eq_1
@[go_sem] theorem c23_22_wp : type_of% (wp_of c23_22.eq_1) := wp_of c23_22.eq_1
@[go_sem] theorem c23_23_wp : type_of% (wp_of c23_23.eq_1) := wp_of c23_23.eq_1
@[go_sem] theorem c23_24_wp : type_of% (wp_of c23_24.eq_1) := wp_of c23_24.eq_1
@[go_sem] theorem c23_25_wp : type_of% (wp_of c23_25.eq_1) := wp_of c23_25.eq_1
@[go_sem] theorem c23_26_wp : type_of% (wp_of c23_26.eq_1) := wp_of c23_26.eq_1
@[go_sem] theorem c23_27_wp : type_of% (wp_of c23_27.eq_1) := wp_of c23_27.eq_1
@[go_sem] theorem c23_28_wp : type_of% (wp_of c23_28.eq_1) := wp_of c23_28.eq_1
@[go_sem] theorem c23_29_wp : type_of% (wp_of c23_29.eq_1) := wp_of c23_29.eq_1
@[go_sem] theorem c23_30_wp : type_of% (wp_of c23_30.eq_1) := wp_of c23_30.eq_1
@[go_sem] theorem c23_31_wp : type_of% (wp_of c23_31.eq_1) := wp_of c23_31.eq_1
@[go_sem] theorem c23_32_wp : type_of% (wp_of c23_32.eq_1) := wp_of c23_32.eq_1
@[go_sem] theorem c23_33_wp : type_of% (wp_of c23_33.eq_1) := wp_of c23_33.eq_1
@[go_sem] theorem c23_34_wp : type_of% (wp_of c23_34.eq_1) := wp_of c23_34.eq_1
@[go_sem] theorem c23_35_wp : type_of% (wp_of c23_35.eq_1) := wp_of c23_35.eq_1
@[go_sem] theorem c23_36_wp : type_of% (wp_of c23_36.eq_1) := wp_of c23_36.eq_1
@[go_sem] theorem c23_37_wp : type_of% (wp_of c23_37.eq_1) := wp_of c23_37.eq_1
@[go_sem] theorem c23_38_wp : type_of% (wp_of c23_38.eq_1) := wp_of c23_38.eq_1
@[go_sem] theorem c23_39_wp : type_of% (wp_of c23_39.eq_1) := wp_of c23_39.eq_1
@[go_sem] theorem c23_40_wp : type_of% (wp_of c23_40.eq_1) := wp_of c23_40.eq_1
@[go_sem] theorem c23_41_wp : type_of% (wp_of c23_41.eq_1) := wp_of c23_41.eq_1
@[go_sem] theorem c23_42_wp : type_of% (wp_of c23_42.eq_1) := wp_of c23_42.eq_1
@[go_sem] theorem c23_43_wp : type_of% (wp_of c23_43.eq_1) := wp_of c23_43.eq_1
@[go_sem] theorem c23_44_wp : type_of% (wp_of c23_44.eq_1) := wp_of c23_44.eq_1
@[go_sem] theorem c23_45_wp : type_of% (wp_of c23_45.eq_1) := wp_of c23_45.eq_1
@[go_sem] theorem c23_46_wp : type_of% (wp_of c23_46.eq_1) := wp_of c23_46.eq_1
@[go_sem] theorem c23_47_wp : type_of% (wp_of c23_47.eq_1) := wp_of c23_47.eq_1
@[go_sem] theorem c23_48_wp : type_of% (wp_of c23_48.eq_1) := wp_of c23_48.eq_1
@[go_sem] theorem c23_49_wp : type_of% (wp_of c23_49.eq_1) := wp_of c23_49.eq_1
@[go_sem] theorem c23_50_wp : type_of% (wp_of c23_50.eq_1) := wp_of c23_50.eq_1
def c23 : AFn := ⟨60, [.t 6], c23_50⟩
set_option maxRecDepth 100000 in
theorem c23_ok : compF Tryz.prog Tryz.f23 = some c23 := by kernel_rfl
theorem a23 {args : List AV} {σ : ASt} {R : AV → ASt → Prop} (hl : args.length ≤ 60) (h : c23_50.wp Tryz.prog (RetQ [.t 6] R) (init args) σ) : ACalls Tryz.prog 23 args σ R := acalls_of Tryz.func23 c23_ok hl h

/-! 28: tabular/value.AsText -/
def c28_0 : ACode := .ops [
    ⟨(some 2), none, .q (.mv (.v (.str []))), []⟩,
    ⟨(some 3), none, .q (.mv (.v (.int .i64 0))), []⟩]
def c28_1 : ACode := .ops [
    ⟨(some 8), none, .q (.mv (.t 0)), []⟩]
def c28_2 : ACode := .ops [
    ⟨(some 9), none, .q (.ta 80 (.int .i64 0) true (.t 8)), []⟩,
    ⟨(some 10), none, .q (.ext 1 (.t 9)), []⟩,
    ⟨(some 11), none, .q (.ext 0 (.t 9)), []⟩]
def c28_3 : ACode := .ops [
    ⟨(some 4), none, .q (.mv (.t 11)), []⟩]
def c28_4 : ACode := .ops [
    ⟨(some 12), none, .q (.mv (.t 4)), []⟩,
    ⟨(some 13), none, .e (.call 102 [(.t 12)]), []⟩,
    ⟨(some 2), none, .q (.mv (.t 13)), []⟩,
    ⟨(some 3), none, .q (.mv (.v (.int .i64 0))), []⟩]
def c28_5 : ACode := .seq c28_4 .ret
def c28_6 : ACode := .seq c28_3 c28_5
def c28_7 : ACode := .ops [
    ⟨(some 14), none, .q (.ta 127 (.bool false) true (.t 8)), []⟩,
    ⟨(some 15), none, .q (.ext 1 (.t 14)), []⟩,
    ⟨(some 16), none, .q (.ext 0 (.t 14)), []⟩]
def c28_8 : ACode := .ops [
    ⟨(some 5), none, .q (.mv (.t 16)), []⟩]
def c28_9 : ACode := .ops [
    ⟨(some 17), none, .q (.mv (.t 5)), []⟩]
def c28_10 : ACode := .ops [
    ⟨(some 2), none, .q (.mv (.v (.str [84, 82, 85, 69]))), []⟩,
    ⟨(some 3), none, .q (.mv (.v (.int .i64 0))), []⟩]
def c28_11 : ACode := .seq c28_10 .ret
def c28_12 : ACode := .cond (.t 17) c28_11 .skip
def c28_13 : ACode := .seq c28_9 c28_12
def c28_14 : ACode := .ops [
    ⟨(some 2), none, .q (.mv (.v (.str [70, 65, 76, 83, 69]))), []⟩,
    ⟨(some 3), none, .q (.mv (.v (.int .i64 0))), []⟩]
def c28_15 : ACode := .seq c28_14 .ret
def c28_16 : ACode := .seq c28_13 c28_15
def c28_17 : ACode := .seq c28_8 c28_16
def c28_18 : ACode := .ops [
    ⟨(some 18), none, .q (.ta 124 (.str []) true (.t 8)), []⟩,
    ⟨(some 19), none, .q (.ext 1 (.t 18)), []⟩,
    ⟨(some 20), none, .q (.ext 0 (.t 18)), []⟩]
def c28_19 : ACode := .ops [
    ⟨(some 6), none, .q (.mv (.t 20)), []⟩]
def c28_20 : ACode := .ops [
    ⟨(some 21), none, .q (.mv (.t 6)), []⟩,
    ⟨(some 2), none, .q (.mv (.t 21)), []⟩,
    ⟨(some 3), none, .q (.mv (.v (.int .i64 0))), []⟩]
def c28_21 : ACode := .seq c28_20 .ret
def c28_22 : ACode := .seq c28_19 c28_21
def c28_23 : ACode := .ops [
    ⟨(some 22), none, .q (.ta 51 (.int .i64 0) true (.t 8)), []⟩,
    ⟨(some 23), none, .q (.ext 1 (.t 22)), []⟩,
    ⟨(some 24), none, .q (.ext 0 (.t 22)), []⟩]
def c28_24 : ACode := .ops [
    ⟨(some 7), none, .q (.mv (.t 24)), []⟩]
def c28_25 : ACode := .ops [
    ⟨(some 25), none, .q (.mv (.t 7)), []⟩,
    ⟨(some 2), none, .q (.mv (.v (.str []))), []⟩,
    ⟨(some 3), none, .q (.mv (.t 25)), []⟩]
def c28_26 : ACode := .seq c28_25 .ret
def c28_27 : ACode := .seq c28_24 c28_26
def c28_28 : ACode := .cond (.t 23) c28_27 .skip
def c28_29 : ACode := .seq c28_23 c28_28
def c28_30 : ACode := .cond (.t 19) c28_22 c28_29
def c28_31 : ACode := .seq c28_18 c28_30
def c28_32 : ACode := .cond (.t 15) c28_17 c28_31
def c28_33 : ACode := .seq c28_7 c28_32
def c28_34 : ACode := .cond (.t 10) c28_6 c28_33
def c28_35 : ACode := .seq c28_2 c28_34
def c28_36 : ACode := .block 0 c28_35
def c28_37 : ACode := .seq c28_1 c28_36
def c28_38 : ACode := .ops [
    ⟨(some 2), none, .q (.mv (.v (.str []))), []⟩,
    ⟨(some 3), none, .q (.mv (.v (.int .i64 0))), []⟩]
def c28_39 : ACode := .seq c28_38 .ret
def c28_40 : ACode := .seq c28_37 c28_39
def c28_41 : ACode := .seq c28_0 c28_40
@[go_sem] theorem c28_0_wp : type_of% (wp_of c28_0.eq_1) := wp_of c28_0.eq_1
@[go_sem] theorem c28_1_wp : type_of% (wp_of c28_1.eq_1) := wp_of c28_1.eq_1
@[go_sem] theorem c28_2_wp : type_of% (wp_of c28_2.eq_1) := wp_of c28_2.eq_1
@[go_sem] theorem c28_3_wp : type_of% (wp_of c28_3.eq_1) := wp_of c28_3.eq_1
@[go_sem] theorem c28_4_wp : type_of% (wp_of c28_4.eq_1) := wp_of c28_4.eq_1
@[go_sem] theorem c28_5_wp : type_of% (wp_of c28_5.eq_1) := wp_of c28_5.eq_1
@[go_sem] theorem c28_6_wp : type_of% (wp_of c28_6.eq_1) := wp_of c28_6.eq_1
@[go_sem] theorem c28_7_wp : type_of% (wp_of c28_7.eq_1) := wp_of c28_7.eq_1
@[go_sem] theorem c28_8_wp : type_of% (wp_of c28_8.eq_1) := wp_of c28_8.eq_1
@[go_sem] theorem c28_9_wp : type_of% (wp_of c28_9.eq_1) := wp_of c28_9.eq_1
@[go_sem] theorem c28_10_wp : type_of% (wp_of c28_10.eq_1) := wp_of c28_10.eq_1
@[go_sem] theorem c28_11_wp : type_of% (wp_of c28_11.eq_1) := wp_of c28_11.eq_1
@[go_sem] theorem c28_12_wp : type_of% (wp_of c28_12.eq_1) := wp_of c28_12.eq_1
@[go_sem] theorem c28_13_wp : type_of% (wp_of c28_13.eq_1) := wp_of c28_13.eq_1
@[go_sem] theorem c28_14_wp : type_of% (wp_of c28_14.eq_1) := wp_of c28_14.eq_1
@[go_sem] theorem c28_15_wp : type_of% (wp_of c28_15.eq_1) := wp_of c28_15.eq_1
@[go_sem] theorem c28_16_wp : type_of% (wp_of c28_16.eq_1) := wp_of c28_16.eq_1
@[go_sem] theorem c28_17_wp : type_of% (wp_of c28_17.eq_1) := wp_of c28_17.eq_1
@[go_sem] theorem c28_18_wp : type_of% (wp_of c28_18.eq_1) := wp_of c28_18.eq_1
@[go_sem] theorem c28_19_wp : type_of% (wp_of c28_19.eq_1) := wp_of c28_19.eq_1
@[go_sem] theorem c28_20_wp : type_of% (wp_of c28_20.eq_1) := wp_of c28_20.eq_1
@[go_sem] theorem c28_21_wp : type_of% (wp_of c28_21.eq_1) := wp_of c28_21.eq_1
@[go_sem] theorem c28_22_wp : type_of% (wp_of c28_22.eq_1) := wp_of c28_22.eq_1
@[go_sem] theorem c28_23_wp : type_of% (wp_of c28_23.eq_1) := wp_of c28_23.eq_1
@[go_sem] theorem c28_24_wp : type_of% (wp_of c28_24.eq_1) := wp_of c28_24.eq_1
@[go_sem] theorem c28_25_wp : type_of% (wp_of c28_25.eq_1) := wp_of c28_25.eq_1
@[go_sem] theorem c28_26_wp : type_of% (wp_of c28_26.eq_1) := wp_of c28_26.eq_1
@[go_sem] theorem c28_27_wp : type_of% (wp_of c28_27.eq_1) := wp_of c28_27.eq_1
@[go_sem] theorem c28_28_wp : type_of% (wp_of c28_28.eq_1) := wp_of c28_28.eq_1
@[go_sem] theorem c28_29_wp : type_of% (wp_of c28_29.eq_1) := wp_of c28_29.eq_1
@[go_sem] theorem c28_30_wp : type_of% (wp_of c28_30.eq_1) := wp_of c28_30.eq_1
@[go_sem] theorem c28_31_wp : type_of% (wp_of c28_31.eq_1) := wp_of c28_31.eq_1
@[go_sem] theorem c28_32_wp : type_of% (wp_of c28_32.eq_1) := wp_of c28_32.eq_1
@[go_sem] theorem c28_33_wp : type_of% (wp_of c28_33.eq_1) := wp_of c28_33.eq_1
@[go_sem] theorem c28_34_wp : type_of% (wp_of c28_34.eq_1) := wp_of c28_34.eq_1
@[go_sem] theorem c28_35_wp : type_of% (wp_of c28_35.eq_1) := wp_of c28_35.eq_1
@[go_sem] theorem c28_36_wp : type_of% (wp_of c28_36.eq_1) := wp_of c28_36.eq_1
@[go_sem] theorem c28_37_wp : type_of% (wp_of c28_37.eq_1) := wp_of c28_37.eq_1
@[go_sem] theorem c28_38_wp : type_of% (wp_of c28_38.eq_1) := wp_of c28_38.eq_1
@[go_sem] theorem c28_39_wp : type_of% (wp_of c28_39.eq_1) := wp_of c28_39.eq_1
@[go_sem] theorem c28_40_wp : type_of% (wp_of c28_40.eq_1) := wp_of c28_40.eq_1
@[go_sem] theorem c28_41_wp : type_of% (wp_of c28_41.eq_1) := wp_of c28_41.eq_1
def c28 : AFn := ⟨26, [.t 2, .t 3], c28_41⟩
set_option maxRecDepth 100000 in
theorem c28_ok : compF Tryz.prog Tryz.f28 = some c28 := by kernel_rfl
theorem a28 {args : List AV} {σ : ASt} {R : AV → ASt → Prop} (hl : args.length ≤ 26) (h : c28_41.wp Tryz.prog (RetQ [.t 2, .t 3] R) (init args) σ) : ACalls Tryz.prog 28 args σ R := acalls_of Tryz.func28 c28_ok hl h

/-! 29: tabular/value.AsBool -/
def c29_0 : ACode := .ops [
    ⟨(some 2), none, .q (.mv (.v (.bool false))), []⟩,
    ⟨(some 3), none, .q (.mv (.v (.int .i64 0))), []⟩]
def c29_1 : ACode := .ops [
    ⟨(some 8), none, .q (.mv (.t 0)), []⟩]
def c29_2 : ACode := .ops [
    ⟨(some 9), none, .q (.ta 80 (.int .i64 0) true (.t 8)), []⟩,
    ⟨(some 10), none, .q (.ext 1 (.t 9)), []⟩,
    ⟨(some 11), none, .q (.ext 0 (.t 9)), []⟩]
def c29_3 : ACode := .ops [
    ⟨(some 4), none, .q (.mv (.t 11)), []⟩]
def c29_4 : ACode := .ops [
    ⟨(some 12), none, .q (.mv (.t 4)), []⟩,
    ⟨(some 13), none, .q (.bin .neq (.t 12) (.v (.int .i64 0))), []⟩,
    ⟨(some 2), none, .q (.mv (.t 13)), []⟩,
    ⟨(some 3), none, .q (.mv (.v (.int .i64 0))), []⟩]
def c29_5 : ACode := .seq c29_4 .ret
def c29_6 : ACode := .seq c29_3 c29_5
def c29_7 : ACode := .ops [
    ⟨(some 14), none, .q (.ta 127 (.bool false) true (.t 8)), []⟩,
    ⟨(some 15), none, .q (.ext 1 (.t 14)), []⟩,
    ⟨(some 16), none, .q (.ext 0 (.t 14)), []⟩]
def c29_8 : ACode := .ops [
    ⟨(some 5), none, .q (.mv (.t 16)), []⟩]
def c29_9 : ACode := .ops [
    ⟨(some 17), none, .q (.mv (.t 5)), []⟩,
    ⟨(some 2), none, .q (.mv (.t 17)), []⟩,
    ⟨(some 3), none, .q (.mv (.v (.int .i64 0))), []⟩]
def c29_10 : ACode := .seq c29_9 .ret
def c29_11 : ACode := .seq c29_8 c29_10
def c29_12 : ACode := .ops [
    ⟨(some 18), none, .q (.ta 124 (.str []) true (.t 8)), []⟩,
    ⟨(some 19), none, .q (.ext 1 (.t 18)), []⟩,
    ⟨(some 20), none, .q (.ext 0 (.t 18)), []⟩]
def c29_13 : ACode := .ops [
    ⟨(some 6), none, .q (.mv (.t 20)), []⟩]
def c29_14 : ACode := .ops [
    ⟨(some 21), none, .q (.mv (.t 6)), []⟩,
    ⟨(some 22), none, .e (.call 101 [(.t 21)]), []⟩,
    ⟨(some 23), none, .e (.call 88 [(.t 22)]), []⟩]
def c29_15 : ACode := .ops [
    ⟨(some 25), none, .q (.bin .eql (.t 23) (.v (.str [84, 82, 85, 69]))), []⟩,
    ⟨(some 24), none, .q (.mv (.t 25)), []⟩]
def c29_16 : ACode := .ops [
    ⟨(some 2), none, .q (.mv (.v (.bool true))), []⟩,
    ⟨(some 3), none, .q (.mv (.v (.int .i64 0))), []⟩]
def c29_17 : ACode := .seq c29_16 .ret
def c29_18 : ACode := .ops [
    ⟨(some 27), none, .q (.bin .eql (.t 23) (.v (.str [70, 65, 76, 83, 69]))), []⟩,
    ⟨(some 26), none, .q (.mv (.t 27)), []⟩]
def c29_19 : ACode := .ops [
    ⟨(some 2), none, .q (.mv (.v (.bool false))), []⟩,
    ⟨(some 3), none, .q (.mv (.v (.int .i64 0))), []⟩]
def c29_20 : ACode := .seq c29_19 .ret
def c29_21 : ACode := .cond (.t 26) c29_20 .skip
def c29_22 : ACode := .seq c29_18 c29_21
def c29_23 : ACode := .cond (.t 24) c29_17 c29_22
def c29_24 : ACode := .seq c29_15 c29_23
def c29_25 : ACode := .block 1 c29_24
def c29_26 : ACode := .seq c29_14 c29_25
def c29_27 : ACode := .ops [
    ⟨(some 2), none, .q (.mv (.v (.bool false))), []⟩,
    ⟨(some 3), none, .q (.mv (.v (.int .i64 3))), []⟩]
def c29_28 : ACode := .seq c29_27 .ret
def c29_29 : ACode := .seq c29_26 c29_28
def c29_30 : ACode := .seq c29_13 c29_29
def c29_31 : ACode := .ops [
    ⟨(some 28), none, .q (.ta 51 (.int .i64 0) true (.t 8)), []⟩,
    ⟨(some 29), none, .q (.ext 1 (.t 28)), []⟩,
    ⟨(some 30), none, .q (.ext 0 (.t 28)), []⟩]
def c29_32 : ACode := .ops [
    ⟨(some 7), none, .q (.mv (.t 30)), []⟩]
def c29_33 : ACode := .ops [
    ⟨(some 31), none, .q (.mv (.t 7)), []⟩,
    ⟨(some 2), none, .q (.mv (.v (.bool false))), []⟩,
    ⟨(some 3), none, .q (.mv (.t 31)), []⟩]
def c29_34 : ACode := .seq c29_33 .ret
def c29_35 : ACode := .seq c29_32 c29_34
def c29_36 : ACode := .cond (.t 29) c29_35 .skip
def c29_37 : ACode := .seq c29_31 c29_36
def c29_38 : ACode := .cond (.t 19) c29_30 c29_37
def c29_39 : ACode := .seq c29_12 c29_38
def c29_40 : ACode := .cond (.t 15) c29_11 c29_39
def c29_41 : ACode := .seq c29_7 c29_40
def c29_42 : ACode := .cond (.t 10) c29_6 c29_41
def c29_43 : ACode := .seq c29_2 c29_42
def c29_44 : ACode := .block 0 c29_43
def c29_45 : ACode := .seq c29_1 c29_44
def c29_46 : ACode := .ops [
    ⟨(some 2), none, .q (.mv (.v (.bool false))), []⟩,
    ⟨(some 3), none, .q (.mv (.v (.int .i64 0))), []⟩]
def c29_47 : ACode := .seq c29_46 .ret
def c29_48 : ACode := .seq c29_45 c29_47
def c29_49 : ACode := .seq c29_0 c29_48
@[go_sem] theorem c29_0_wp : type_of% (wp_of c29_0.eq_1) := wp_of c29_0.eq_1
@[go_sem] theorem c29_1_wp : type_of% (wp_of c29_1.eq_1) := wp_of c29_1.eq_1
@[go_sem] theorem c29_2_wp : type_of% (wp_of c29_2.eq_1) := wp_of c29_2.eq_1
@[go_sem] theorem c29_3_wp : type_of% (wp_of c29_3.eq_1) := wp_of c29_3.eq_1
@[go_sem] theorem c29_4_wp : type_of% (wp_of c29_4.eq_1) := wp_of c29_4.eq_1
@[go_sem] theorem c29_5_wp : type_of% (wp_of c29_5.eq_1) := wp_of c29_5.eq_1
@[go_sem] theorem c29_6_wp : type_of% (wp_of c29_6.eq_1) := wp_of c29_6.eq_1
@[go_sem] theorem c29_7_wp : type_of% (wp_of c29_7.eq_1) := wp_of c29_7.eq_1
@[go_sem] theorem c29_8_wp : type_of% (wp_of c29_8.eq_1) := wp_of c29_8.eq_1
@[go_sem] theorem c29_9_wp : type_of% (wp_of c29_9.eq_1) := wp_of c29_9.eq_1
@[go_sem] theorem c29_10_wp : type_of% (wp_of c29_10.eq_1) := wp_of c29_10.eq_1
@[go_sem] theorem c29_11_wp : type_of% (wp_of c29_11.eq_1) := wp_of c29_11.eq_1
@[go_sem] theorem c29_12_wp : type_of% (wp_of c29_12.eq_1) := wp_of c29_12.eq_1
@[go_sem] theorem c29_13_wp : type_of% (wp_of c29_13.eq_1) := wp_of c29_13.eq_1
@[go_sem] theorem c29_14_wp : type_of% (wp_of c29_14.eq_1) := wp_of c29_14.eq_1
@[go_sem] theorem c29_15_wp : type_of% (wp_of c29_15.eq_1) := wp_of c29_15.eq_1
@[go_sem] theorem c29_16_wp : type_of% (wp_of c29_16.eq_1) := wp_of c29_16.eq_1
@[go_sem] theorem c29_17_wp : type_of% (wp_of c29_17.eq_1) := wp_of c29_17.eq_1
@[go_sem] theorem c29_18_wp : type_of% (wp_of c29_18.eq_1) := wp_of c29_18.eq_1
@[go_sem] theorem c29_19_wp : type_of% (wp_of c29_19.eq_1) := wp_of c29_19.eq_1
@[go_sem] theorem c29_20_wp : type_of% (wp_of c29_20.eq_1) := wp_of c29_20.eq_1
@[go_sem] theorem c29_21_wp : type_of% (wp_of c29_21.eq_1) := wp_of c29_21.eq_1
@[go_sem] theorem c29_22_wp : type_of% (wp_of c29_22.eq_1) := wp_of c29_22.eq_1
@[go_sem] theorem c29_23_wp : type_of% (wp_of c29_23.eq_1) := wp_of c29_23.eq_1
@[go_sem] theorem c29_24_wp : type_of% (wp_of c29_24.eq_1) := wp_of c29_24.eq_1
@[go_sem] theorem c29_25_wp : type_of% (wp_of c29_25.eq_1) := wp_of c29_25.eq_1
@[go_sem] theorem c29_26_wp : type_of% (wp_of c29_26.eq_1) := wp_of c29_26.eq_1
@[go_sem] theorem c29_27_wp : type_of% (wp_of c29_27.eq_1) := wp_of c29_27.eq_1
@[go_sem] theorem c29_28_wp : type_of% (wp_of c29_28.eq_1) := wp_of c29_28.eq_1
@[go_sem] theorem c29_29_wp : type_of% (wp_of c29_29.eq_1) := wp_of c29_29.eq_1
@[go_sem] theorem c29_30_wp : type_of% (wp_of c29_30.eq_1) := wp_of c29_30.eq_1
@[go_sem] theorem c29_31_wp : type_of% (wp_of c29_31.eq_1) := wp_of c29_31.eq_1
@[go_sem] theorem c29_32_wp : type_of% (wp_of c29_32.eq_1) := wp_of c29_32.eq_1
@[go_sem] theorem c29_33_wp : type_of% (wp_of c29_33.eq_1) := wp_of c29_33.eq_1
@[go_sem] theorem c29_34_wp : type_of% (wp_of c29_34.eq_1) := wp_of c29_34.eq_1
@[go_sem] theorem c29_35_wp : type_of% (wp_of c29_35.eq_1) := wp_of c29_35.eq_1
@[go_sem] theorem c29_36_wp : type_of% (wp_of c29_36.eq_1) := wp_of c29_36.eq_1
@[go_sem] theorem c29_37_wp : type_of% (wp_of c29_37.eq_1) := wp_of c29_37.eq_1
@[go_sem] theorem c29_38_wp : type_of% (wp_of c29_38.eq_1) := wp_of c29_38.eq_1
@[go_sem] theorem c29_39_wp : type_of% (wp_of c29_39.eq_1) := wp_of c29_39.eq_1
@[go_sem] theorem c29_40_wp : type_of% (wp_of c29_40.eq_1) := wp_of c29_40.eq_1
@[go_sem] theorem c29_41_wp : type_of% (wp_of c29_41.eq_1) := wp_of c29_41.eq_1
@[go_sem] theorem c29_42_wp : type_of% (wp_of c29_42.eq_1) := wp_of c29_42.eq_1
@[go_sem] theorem c29_43_wp : type_of% (wp_of c29_43.eq_1) := wp_of c29_43.eq_1
@[go_sem] theorem c29_44_wp : type_of% (wp_of c29_44.eq_1) := wp_of c29_44.eq_1
@[go_sem] theorem c29_45_wp : type_of% (wp_of c29_45.eq_1) := wp_of c29_45.eq_1
@[go_sem] theorem c29_46_wp : type_of% (wp_of c29_46.eq_1) := wp_of c29_46.eq_1
@[go_sem] theorem c29_47_wp : type_of% (wp_of c29_47.eq_1) := wp_of c29_47.eq_1
@[go_sem] theorem c29_48_wp : type_of% (wp_of c29_48.eq_1) := wp_of c29_48.eq_1
@[go_sem] theorem c29_49_wp : type_of% (wp_of c29_49.eq_1) := wp_of c29_49.eq_1
def c29 : AFn := ⟨32, [.t 2, .t 3], c29_49⟩
set_option maxRecDepth 100000 in
theorem c29_ok : compF Tryz.prog Tryz.f29 = some c29 := by kernel_rfl
theorem a29 {args : List AV} {σ : ASt} {R : AV → ASt → Prop} (hl : args.length ≤ 32) (h : c29_49.wp Tryz.prog (RetQ [.t 2, .t 3] R) (init args) σ) : ACalls Tryz.prog 29 args σ R := acalls_of Tryz.func29 c29_ok hl h

end Go.A
