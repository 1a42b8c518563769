/- The functions, compiled: by program (wip/gencode.py). -/
import Derived.Test.YtmefepbdognkdaaGreatDoorBk
import Derived.Test.YtmefepbdognkdaaGreatDoorProg
import Derived.KernelRfl
namespace Go.A
open Go.Proofs

/-! 7: tabular/tabularlaw01.Cut -/
def c7_0 : ACode := .ops [
    ⟨(some 4), none, .q (.mv (.v (.str []))), []⟩]
def c7_1 : ACode := .ops [
    ⟨(some 5), none, .q (.mv (.t 0)), []⟩,
    ⟨(some 6), none, .q (.lenS (.t 5)), []⟩,
    ⟨(some 7), none, .q (.mv (.t 1)), []⟩,
    ⟨(some 8), none, .q (.bin .gtr (.t 6) (.t 7)), []⟩]
def c7_2 : ACode := .ops [
    ⟨(some 9), none, .q (.mv (.t 0)), []⟩,
    ⟨(some 10), none, .q (.mv (.t 1)), []⟩,
    ⟨(some 11), none, .q (.slto (true, 0) (.t 9) (.t 10)), []⟩,
    ⟨(some 4), none, .q (.mv (.t 11)), []⟩]
def c7_3 : ACode := .seq c7_2 .ret
def c7_4 : ACode := .cond (.t 8) c7_3 .skip
def c7_5 : ACode := .seq c7_1 c7_4
def c7_6 : ACode := .ops [
    ⟨(some 12), none, .q (.mv (.t 0)), []⟩,
    ⟨(some 4), none, .q (.mv (.t 12)), []⟩]
def c7_7 : ACode := .seq c7_6 .ret
def c7_8 : ACode := .seq c7_5 c7_7
def c7_9 : ACode := .seq c7_0 c7_8
@[go_sem] theorem c7_0_wp : type_of% (wp_of c7_0.eq_1) := wp_of c7_0.eq_1
@[go_sem] theorem c7_1_wp : type_of% (wp_of c7_1.eq_1) := wp_of c7_1.eq_1
@[go_sem] theorem c7_2_wp : type_of% (wp_of c7_2.eq_1) := wp_of c7_2.eq_1
@[go_sem] theorem c7_3_wp : type_of% (wp_of c7_3.eq_1) := wp_of c7_3.eq_1
@[go_sem] theorem c7_4_wp : type_of% (wp_of c7_4.eq_1) := wp_of c7_4.eq_1
@[go_sem] theorem c7_5_wp : type_of% (wp_of c7_5.eq_1) := wp_of c7_5.eq_1
@[go_sem] theorem c7_6_wp : type_of% (wp_of c7_6.eq_1) := wp_of c7_6.eq_1
@[go_sem] theorem c7_7_wp : type_of% (wp_of c7_7.eq_1) := wp_of c7_7.eq_1
@[go_sem] theorem c7_8_wp : type_of% (wp_of c7_8.eq_1) := wp_of c7_8.eq_1
@[go_sem] theorem c7_9_wp : type_of% (wp_of c7_9.eq_1) := wp_of c7_9.eq_1
def c7 : AFn := ⟨13, [.t 4], c7_9⟩
set_option maxRecDepth 100000 in
theorem c7_ok : compF Tryz.prog Tryz.f7 = some c7 := by kernel_rfl
theorem a7 {args : List AV} {σ : ASt} {R : AV → ASt → Prop} (hl : args.length ≤ 13) (h : c7_9.wp Tryz.prog (RetQ [.t 4] R) (init args) σ) : ACalls Tryz.prog 7 args σ R := acalls_of Tryz.func7 c7_ok hl h

/-! 41: tabular/deci.Abs -/
def c41_0 : ACode := .ops [
    ⟨(some 2), none, .q (.mv (.v (.int .i64 0))), []⟩]
def c41_1 : ACode := .ops [
    ⟨(some 3), none, .q (.mv (.t 0)), []⟩,
    ⟨(some 4), none, .q (.bin .lss (.t 3) (.v (.int .i64 0))), []⟩]
def c41_2 : ACode := .ops [
    ⟨(some 5), none, .q (.mv (.t 0)), []⟩,
    ⟨(some 6), none, .q (.un .neg (.t 5)), []⟩,
    ⟨(some 2), none, .q (.mv (.t 6)), []⟩]
def c41_3 : ACode := .seq c41_2 .ret
def c41_4 : ACode := .cond (.t 4) c41_3 .skip
def c41_5 : ACode := .seq c41_1 c41_4
def c41_6 : ACode := .ops [
    ⟨(some 7), none, .q (.mv (.t 0)), []⟩,
    ⟨(some 2), none, .q (.mv (.t 7)), []⟩]
def c41_7 : ACode := .seq c41_6 .ret
def c41_8 : ACode := .seq c41_5 c41_7
def c41_9 : ACode := .seq c41_0 c41_8
@[go_sem] theorem c41_0_wp : type_of% (wp_of c41_0.eq_1) := wp_of c41_0.eq_1
@[go_sem] theorem c41_1_wp : type_of% (wp_of c41_1.eq_1) := wp_of c41_1.eq_1
@[go_sem] theorem c41_2_wp : type_of% (wp_of c41_2.eq_1) := wp_of c41_2.eq_1
@[go_sem] theorem c41_3_wp : type_of% (wp_of c41_3.eq_1) := wp_of c41_3.eq_1
@[go_sem] theorem c41_4_wp : type_of% (wp_of c41_4.eq_1) := wp_of c41_4.eq_1
@[go_sem] theorem c41_5_wp : type_of% (wp_of c41_5.eq_1) := wp_of c41_5.eq_1
@[go_sem] theorem c41_6_wp : type_of% (wp_of c41_6.eq_1) := wp_of c41_6.eq_1
@[go_sem] theorem c41_7_wp : type_of% (wp_of c41_7.eq_1) := wp_of c41_7.eq_1
@[go_sem] theorem c41_8_wp : type_of% (wp_of c41_8.eq_1) := wp_of c41_8.eq_1
@[go_sem] theorem c41_9_wp : type_of% (wp_of c41_9.eq_1) := wp_of c41_9.eq_1
def c41 : AFn := ⟨8, [.t 2], c41_9⟩
set_option maxRecDepth 100000 in
theorem c41_ok : compF Tryz.prog Tryz.f41 = some c41 := by kernel_rfl
theorem a41 {args : List AV} {σ : ASt} {R : AV → ASt → Prop} (hl : args.length ≤ 8) (h : c41_9.wp Tryz.prog (RetQ [.t 2] R) (init args) σ) : ACalls Tryz.prog 41 args σ R := acalls_of Tryz.func41 c41_ok hl h

/-! 44: tabular/deci.Floor -/
def c44_0 : ACode := .ops [
    ⟨(some 4), none, .q (.mv (.v (.int .i64 0))), []⟩,
    ⟨(some 5), none, .q (.mv (.v (.bool false))), []⟩]
def c44_1 : ACode := .ops [
    ⟨(some 8), none, .q (.mv (.t 1)), []⟩,
    ⟨(some 9), none, .q (.bin .leq (.t 8) (.v (.int .i64 0))), []⟩]
def c44_2 : ACode := .ops [
    ⟨(some 4), none, .q (.mv (.v (.int .i64 0))), []⟩,
    ⟨(some 5), none, .q (.mv (.v (.bool false))), []⟩]
def c44_3 : ACode := .seq c44_2 .ret
def c44_4 : ACode := .cond (.t 9) c44_3 .skip
def c44_5 : ACode := .seq c44_1 c44_4
def c44_6 : ACode := .ops [
    ⟨(some 11), none, .q (.mv (.t 0)), []⟩,
    ⟨(some 12), none, .q (.mv (.t 1)), []⟩,
    ⟨(some 13), none, .e (.call 52 [(.t 11), (.t 12)]), []⟩,
    ⟨(some 10), none, .q (.mv (.t 13)), []⟩,
    ⟨(some 14), none, .q (.ext 0 (.t 10)), []⟩,
    ⟨(some 15), none, .q (.ext 1 (.t 10)), []⟩,
    ⟨(some 6), none, .q (.mv (.t 14)), []⟩,
    ⟨(some 7), none, .q (.mv (.t 15)), []⟩]
def c44_7 : ACode := .ops [
    ⟨(some 16), none, .q (.mv (.t 0)), []⟩,
    ⟨(some 17), none, .q (.mv (.t 6)), []⟩,
    ⟨(some 18), none, .e (.call 94 [(.t 16), (.t 17)]), []⟩,
    ⟨(some 19), none, .q (.ext 0 (.t 18)), []⟩,
    ⟨(some 20), none, .q (.ext 1 (.t 18)), []⟩,
    ⟨(some 4), none, .q (.mv (.t 19)), []⟩,
    ⟨(some 5), none, .q (.mv (.t 20)), []⟩]
def c44_8 : ACode := .seq c44_7 .ret
def c44_9 : ACode := .seq c44_6 c44_8
def c44_10 : ACode := .seq c44_5 c44_9
def c44_11 : ACode := .seq c44_0 c44_10
@[go_sem] theorem c44_0_wp : type_of% (wp_of c44_0.eq_1) := wp_of c44_0.eq_1
@[go_sem] theorem c44_1_wp : type_of% (wp_of c44_1.eq_1) := wp_of c44_1.eq_1
@[go_sem] theorem c44_2_wp : type_of% (wp_of c44_2.eq_1) := wp_of c44_2.eq_1
@[go_sem] theorem c44_3_wp : type_of% (wp_of c44_3.eq_1) := wp_of c44_3.eq_1
@[go_sem] theorem c44_4_wp : type_of% (wp_of c44_4.eq_1) := wp_of c44_4.eq_1
@[go_sem] theorem c44_5_wp : type_of% (wp_of c44_5.eq_1) := wp_of c44_5.eq_1
@[go_sem] theorem c44_6_wp : type_of% (wp_of c44_6.eq_1) := wp_of c44_6.eq_1
@[go_sem] theorem c44_7_wp : type_of% (wp_of c44_7.eq_1) := wp_of c44_7.eq_1
@[go_sem] theorem c44_8_wp : type_of% (wp_of c44_8.eq_1) := wp_of c44_8.eq_1
@[go_sem] theorem c44_9_wp : type_of% (wp_of c44_9.eq_1) := wp_of c44_9.eq_1
@[go_sem] theorem c44_10_wp : type_of% (wp_of c44_10.eq_1) := wp_of c44_10.eq_1
@[go_sem] theorem c44_11_wp : type_of% (wp_of c44_11.eq_1) := wp_of c44_11.eq_1
def c44 : AFn := ⟨21, [.t 4, .t 5], c44_11⟩
set_option maxRecDepth 100000 in
theorem c44_ok : compF Tryz.prog Tryz.f44 = some c44 := by kernel_rfl
theorem a44 {args : List AV} {σ : ASt} {R : AV → ASt → Prop} (hl : args.length ≤ 21) (h : c44_11.wp Tryz.prog (RetQ [.t 4, .t 5] R) (init args) σ) : ACalls Tryz.prog 44 args σ R := acalls_of Tryz.func44 c44_ok hl h

/-! 47: tabular/deci.Round -/
def c47_0 : ACode := .ops [
    ⟨(some 4), none, .q (.mv (.v (.int .i64 0))), []⟩,
    ⟨(some 5), none, .q (.mv (.v (.bool false))), []⟩]
def c47_1 : ACode := .ops [
    ⟨(some 10), none, .q (.mv (.t 1)), []⟩,
    ⟨(some 11), none, .q (.bin .lss (.t 10) (.v (.int .i64 (-14)))), []⟩]
def c47_2 : ACode := .ops [
    ⟨(some 4), none, .q (.mv (.v (.int .i64 0))), []⟩,
    ⟨(some 5), none, .q (.mv (.v (.bool true))), []⟩]
def c47_3 : ACode := .seq c47_2 .ret
def c47_4 : ACode := .cond (.t 11) c47_3 .skip
def c47_5 : ACode := .seq c47_1 c47_4
def c47_6 : ACode := .ops [
    ⟨(some 13), none, .q (.mv (.t 1)), []⟩,
    ⟨(some 14), none, .e (.call 113 [(.t 13)]), []⟩,
    ⟨(some 12), none, .q (.mv (.t 14)), []⟩,
    ⟨(some 15), none, .q (.ext 0 (.t 12)), []⟩,
    ⟨(some 16), none, .q (.ext 1 (.t 12)), []⟩,
    ⟨(some 6), none, .q (.mv (.t 15)), []⟩,
    ⟨(some 7), none, .q (.mv (.t 16)), []⟩]
def c47_7 : ACode := .ops [
    ⟨(some 17), none, .q (.mv (.t 7)), []⟩,
    ⟨(some 18), none, .q (.un .not (.t 17)), []⟩]
def c47_8 : ACode := .ops [
    ⟨(some 19), none, .q (.mv (.t 0)), []⟩,
    ⟨(some 4), none, .q (.mv (.t 19)), []⟩,
    ⟨(some 5), none, .q (.mv (.v (.bool true))), []⟩]
def c47_9 : ACode := .seq c47_8 .ret
def c47_10 : ACode := .cond (.t 18) c47_9 .skip
def c47_11 : ACode := .seq c47_7 c47_10
def c47_12 : ACode := .ops [
    ⟨(some 20), none, .q (.mv (.t 0)), []⟩,
    ⟨(some 21), none, .e (.call 115 [(.t 20)]), []⟩,
    ⟨(some 8), none, .q (.mv (.t 21)), []⟩]
def c47_13 : ACode := .ops [
    ⟨(some 22), none, .q (.mv (.t 8)), []⟩,
    ⟨(some 23), none, .q (.mv (.t 6)), []⟩,
    ⟨(some 24), none, .q (.bin .rem (.t 22) (.t 23)), []⟩,
    ⟨(some 9), none, .q (.mv (.t 24)), []⟩]
def c47_14 : ACode := .ops [
    ⟨(some 25), none, .q (.mv (.t 8)), []⟩,
    ⟨(some 26), none, .q (.mv (.t 9)), []⟩,
    ⟨(some 27), none, .q (.bin .sub (.t 25) (.t 26)), []⟩,
    ⟨(some 8), none, .q (.mv (.t 27)), []⟩]
def c47_15 : ACode := .ops [
    ⟨(some 28), none, .q (.mv (.t 9)), []⟩,
    ⟨(some 29), none, .q (.mv (.t 6)), []⟩,
    ⟨(some 30), none, .q (.mv (.t 9)), []⟩,
    ⟨(some 31), none, .q (.bin .sub (.t 29) (.t 30)), []⟩,
    ⟨(some 32), none, .q (.bin .geq (.t 28) (.t 31)), []⟩]
def c47_16 : ACode := .ops [
    ⟨(some 33), none, .q (.mv (.t 8)), []⟩,
    ⟨(some 34), none, .q (.mv (.t 6)), []⟩,
    ⟨(some 35), none, .q (.bin .add (.t 33) (.t 34)), []⟩,
    ⟨(some 8), none, .q (.mv (.t 35)), []⟩]
def c47_17 : ACode := .cond (.t 32) c47_16 .skip
def c47_18 : ACode := .seq c47_15 c47_17
def c47_19 : ACode := .ops [
    ⟨(some 36), none, .q (.mv (.t 0)), []⟩,
    ⟨(some 37), none, .q (.bin .lss (.t 36) (.v (.int .i64 0))), []⟩,
    ⟨(some 38), none, .q (.mv (.t 8)), []⟩,
    ⟨(some 39), none, .e (.call 116 [(.t 37), (.v (.int .u64 0)), (.t 38)]), []⟩,
    ⟨(some 40), none, .q (.ext 0 (.t 39)), []⟩,
    ⟨(some 41), none, .q (.ext 1 (.t 39)), []⟩,
    ⟨(some 4), none, .q (.mv (.t 40)), []⟩,
    ⟨(some 5), none, .q (.mv (.t 41)), []⟩]
def c47_20 : ACode := .seq c47_19 .ret
def c47_21 : ACode := .seq c47_18 c47_20
def c47_22 : ACode := .seq c47_14 c47_21
def c47_23 : ACode := .seq c47_13 c47_22
def c47_24 : ACode := .seq c47_12 c47_23
def c47_25 : ACode := .seq c47_11 c47_24
def c47_26 : ACode := .seq c47_6 c47_25
def c47_27 : ACode := .seq c47_5 c47_26
def c47_28 : ACode := .seq c47_0 c47_27
@[go_sem] theorem c47_0_wp : type_of% (wp_of c47_0.eq_1) := wp_of c47_0.eq_1
@[go_sem] theorem c47_1_wp : type_of% (wp_of c47_1.eq_1) := wp_of c47_1.eq_1
@[go_sem] theorem c47_2_wp : type_of% (wp_of c47_2.eq_1) := wp_of c47_2.eq_1
@[go_sem] theorem c47_3_wp : type_of% (wp_of c47_3.eq_1) := wp_of c47_3.eq_1
@[go_sem] theorem c47_4_wp : type_of% (wp_of c47_4.eq_1) := wp_of c47_4.eq_1
@[go_sem] theorem c47_5_wp : type_of% (wp_of c47_5.eq_1) := wp_of c47_5.eq_1
@[go_sem] theorem c47_6_wp : type_of% (wp_of c47_6.eq_1) := wp_of c47_6.eq_1
@[go_sem] theorem c47_7_wp : type_of% (wp_of c47_7.eq_1) := wp_of c47_7.eq_1
@[go_sem] theorem c47_8_wp : type_of% (wp_of c47_8.eq_1) := wp_of c47_8.eq_1
@[go_sem] theorem c47_9_wp : type_of% (wp_of c47_9.eq_1) := wp_of c47_9.eq_1
@[go_sem] theorem c47_10_wp : type_of% (wp_of c47_10.eq_1) := wp_of c47_10.eq_1
@[go_sem] theorem c47_11_wp : type_of% (wp_of c47_11.eq_1) := wp_of c47_11.eq_1
@[go_sem] theorem c47_12_wp : type_of% (wp_of c47_12.eq_1) := wp_of c47_12.eq_1
@[go_sem] theorem c47_13_wp : type_of% (wp_of c47_13.eq_1) := wp_of c47_13.eq_1
@[go_sem] theorem c47_14_wp : type_of% (wp_of c47_14.eq_1) := wp_of c47_14.eq_1
@[go_sem] theorem c47_15_wp : type_of% (wp_of c47_15.eq_1) := wp_of c47_15.eq_1
@[go_sem] theorem c47_16_wp : type_of% (wp_of c47_16.eq_1) := wp_of c47_16.eq_1
@[go_sem] theorem c47_17_wp : type_of% (wp_of c47_17.eq_1) := wp_of c47_17.eq_1
@[go_sem] theorem c47_18_wp : type_of% (wp_of c47_18.eq_1) := wp_of c47_18.eq_1
@[go_sem] theorem c47_19_wp : type_of% (wp_of c47_19.eq_1) := wp_of c47_19.eq_1
@[go_sem] theorem c47_20_wp : type_of% (wp_of c47_20.eq_1) := wp_of c47_20.eq_1
@[go_sem] theorem c47_21_wp : type_of% (wp_of c47_21.eq_1) := wp_of c47_21.eq_1
@[go_sem] theorem c47_22_wp : type_of% (wp_of c47_22.eq_1) := wp_of c47_22.eq_1
@[go_sem] theorem c47_23_wp : type_of% (wp_of c47_23.eq_1) := wp_of c47_23.eq_1
@[go_sem] theorem c47_24_wp : type_of% (wp_of c47_24.eq_1) := wp_of c47_24.eq_1
@[go_sem] theorem c47_25_wp : type_of% (wp_of c47_25.eq_1) := wp_of c47_25.eq_1
@[go_sem] theorem c47_26_wp : type_of% (wp_of c47_26.eq_1) := wp_of c47_26.eq_1
@[go_sem] theorem c47_27_wp : type_of% (wp_of c47_27.eq_1) := wp_of c47_27.eq_1
@[go_sem] theorem c47_28_wp : type_of% (wp_of c47_28.eq_1) := wp_of c47_28.eq_1
def c47 : AFn := ⟨42, [.t 4, .t 5], c47_28⟩
set_option maxRecDepth 100000 in
theorem c47_ok : compF Tryz.prog Tryz.f47 = some c47 := by kernel_rfl
theorem a47 {args : List AV} {σ : ASt} {R : AV → ASt → Prop} (hl : args.length ≤ 42) (h : c47_28.wp Tryz.prog (RetQ [.t 4, .t 5] R) (init args) σ) : ACalls Tryz.prog 47 args σ R := acalls_of Tryz.func47 c47_ok hl h

/-! 52: tabular/deci.Mod -/
def c52_0 : ACode := .ops [
    ⟨(some 4), none, .q (.mv (.v (.int .i64 0))), []⟩,
    ⟨(some 5), none, .q (.mv (.v (.bool false))), []⟩]
def c52_1 : ACode := .ops [
    ⟨(some 7), none, .q (.mv (.t 1)), []⟩,
    ⟨(some 8), none, .q (.bin .eql (.t 7) (.v (.int .i64 0))), []⟩]
def c52_2 : ACode := .ops [
    ⟨(some 4), none, .q (.mv (.v (.int .i64 0))), []⟩,
    ⟨(some 5), none, .q (.mv (.v (.bool false))), []⟩]
def c52_3 : ACode := .seq c52_2 .ret
def c52_4 : ACode := .cond (.t 8) c52_3 .skip
def c52_5 : ACode := .seq c52_1 c52_4
def c52_6 : ACode := .ops [
    ⟨(some 9), none, .q (.mv (.t 0)), []⟩,
    ⟨(some 10), none, .q (.mv (.t 1)), []⟩,
    ⟨(some 11), none, .q (.bin .rem (.t 9) (.t 10)), []⟩,
    ⟨(some 6), none, .q (.mv (.t 11)), []⟩]
def c52_7 : ACode := .ops [
    ⟨(some 12), none, .q (.mv (.t 6)), []⟩,
    ⟨(some 13), none, .q (.bin .neq (.t 12) (.v (.int .i64 0))), []⟩,
    ⟨(some 14), none, .q (.mv (.t 13)), []⟩,
    ⟨(some 15), (some (14, true)), .q (.mv (.t 6)), []⟩,
    ⟨(some 16), (some (14, true)), .q (.bin .lss (.t 15) (.v (.int .i64 0))), []⟩,
    ⟨(some 17), (some (14, true)), .q (.mv (.t 1)), []⟩,
    ⟨(some 18), (some (14, true)), .q (.bin .lss (.t 17) (.v (.int .i64 0))), []⟩,
    ⟨(some 19), (some (14, true)), .q (.eq .b true (.t 16) (.t 18)), []⟩,
    ⟨(some 20), none, .q (.pick (.t 14) (.t 19) (.v (.bool false))), []⟩]
def c52_8 : ACode := .ops [
    ⟨(some 21), none, .q (.mv (.t 6)), []⟩,
    ⟨(some 22), none, .q (.mv (.t 1)), []⟩,
    ⟨(some 23), none, .q (.bin .add (.t 21) (.t 22)), []⟩,
    ⟨(some 6), none, .q (.mv (.t 23)), []⟩]
def c52_9 : ACode := .cond (.t 20) c52_8 .skip
def c52_10 : ACode := .seq c52_7 c52_9
def c52_11 : ACode := .ops [
    ⟨(some 24), none, .q (.mv (.t 6)), []⟩,
    ⟨(some 4), none, .q (.mv (.t 24)), []⟩,
    ⟨(some 5), none, .q (.mv (.v (.bool true))), []⟩]
def c52_12 : ACode := .seq c52_11 .ret
def c52_13 : ACode := .seq c52_10 c52_12
def c52_14 : ACode := .seq c52_6 c52_13
def c52_15 : ACode := .seq c52_5 c52_14
def c52_16 : ACode := .seq c52_0 c52_15
@[go_sem] theorem c52_0_wp : type_of% (wp_of c52_0.eq_1) := wp_of c52_0.eq_1
@[go_sem] theorem c52_1_wp : type_of% (wp_of c52_1.eq_1) := wp_of c52_1.eq_1
@[go_sem] theorem c52_2_wp : type_of% (wp_of c52_2.eq_1) := wp_of c52_2.eq_1
@[go_sem] theorem c52_3_wp : type_of% (wp_of c52_3.eq_1) := wp_of c52_3.eq_1
@[go_sem] theorem c52_4_wp : type_of% (wp_of c52_4.eq_1) := wp_of c52_4.eq_1
@[go_sem] theorem c52_5_wp : type_of% (wp_of c52_5.eq_1) := wp_of c52_5.eq_1
@[go_sem] theorem c52_6_wp : type_of% (wp_of c52_6.eq_1) := wp_of c52_6.eq_1
@[go_sem] theorem c52_7_wp : type_of% (wp_of c52_7.eq_1) := wp_of c52_7.eq_1
@[go_sem] theorem c52_8_wp : type_of% (wp_of c52_8.eq_1) := wp_of c52_8.eq_1
@[go_sem] theorem c52_9_wp : type_of% (wp_of c52_9.eq_1) := wp_of c52_9.eq_1
@[go_sem] theorem c52_10_wp : type_of% (wp_of c52_10.eq_1) := wp_of c52_10.eq_1
@[go_sem] theorem c52_11_wp : type_of% (wp_of c52_11.eq_1) := wp_of c52_11.eq_1
@[go_sem] theorem c52_12_wp : type_of% (wp_of c52_12.eq_1) := wp_of c52_12.eq_1
@[go_sem] theorem c52_13_wp : type_of% (wp_of c52_13.eq_1) := wp_of c52_13.eq_1
@[go_sem] theorem c52_14_wp : type_of% (wp_of c52_14.eq_1) := wp_of c52_14.eq_1
@[go_sem] theorem c52_15_wp : type_of% (wp_of c52_15.eq_1) := wp_of c52_15.eq_1
@[go_sem] theorem c52_16_wp : type_of% (wp_of c52_16.eq_1) := wp_of c52_16.eq_1
def c52 : AFn := ⟨25, [.t 4, .t 5], c52_16⟩
set_option maxRecDepth 100000 in
theorem c52_ok : compF Tryz.prog Tryz.f52 = some c52 := by kernel_rfl
theorem a52 {args : List AV} {σ : ASt} {R : AV → ASt → Prop} (hl : args.length ≤ 25) (h : c52_16.wp Tryz.prog (RetQ [.t 4, .t 5] R) (init args) σ) : ACalls Tryz.prog 52 args σ R := acalls_of Tryz.func52 c52_ok hl h

/-! 93: tabular/deci.Add -/
def c93_0 : ACode := .ops [
    ⟨(some 4), none, .q (.mv (.v (.int .i64 0))), []⟩,
    ⟨(some 5), none, .q (.mv (.v (.bool false))), []⟩]
def c93_1 : ACode := .ops [
    ⟨(some 6), none, .q (.mv (.t 0)), []⟩,
    ⟨(some 7), none, .q (.mv (.t 1)), []⟩,
    ⟨(some 8), none, .q (.bin .add (.t 6) (.t 7)), []⟩,
    ⟨(some 9), none, .q (.bin .lss (.t 8) (.v (.int .i64 0))), []⟩,
    ⟨(some 10), none, .q (.mv (.t 0)), []⟩,
    ⟨(some 11), none, .q (.mv (.t 1)), []⟩,
    ⟨(some 12), none, .q (.bin .add (.t 10) (.t 11)), []⟩,
    ⟨(some 13), none, .e (.call 115 [(.t 12)]), []⟩,
    ⟨(some 14), none, .e (.call 116 [(.t 9), (.v (.int .u64 0)), (.t 13)]), []⟩,
    ⟨(some 15), none, .q (.ext 0 (.t 14)), []⟩,
    ⟨(some 16), none, .q (.ext 1 (.t 14)), []⟩,
    ⟨(some 4), none, .q (.mv (.t 15)), []⟩,
    ⟨(some 5), none, .q (.mv (.t 16)), []⟩]
def c93_2 : ACode := .seq c93_1 .ret
def c93_3 : ACode := .seq c93_0 c93_2
@[go_sem] theorem c93_0_wp : type_of% (wp_of c93_0.eq_1) := wp_of c93_0.eq_1
@[go_sem] theorem c93_1_wp : type_of% (wp_of c93_1.eq_1) := wp_of c93_1.eq_1
@[go_sem] theorem c93_2_wp : type_of% (wp_of c93_2.eq_1) := wp_of c93_2.eq_1
@[go_sem] theorem c93_3_wp : type_of% (wp_of c93_3.eq_1) := wp_of c93_3.eq_1
def c93 : AFn := ⟨17, [.t 4, .t 5], c93_3⟩
set_option maxRecDepth 100000 in
theorem c93_ok : compF Tryz.prog Tryz.f93 = some c93 := by kernel_rfl
theorem a93 {args : List AV} {σ : ASt} {R : AV → ASt → Prop} (hl : args.length ≤ 17) (h : c93_3.wp Tryz.prog (RetQ [.t 4, .t 5] R) (init args) σ) : ACalls Tryz.prog 93 args σ R := acalls_of Tryz.func93 c93_ok hl h

/-! 94: tabular/deci.Sub -/
def c94_0 : ACode := .ops [
    ⟨(some 4), none, .q (.mv (.v (.int .i64 0))), []⟩,
    ⟨(some 5), none, .q (.mv (.v (.bool false))), []⟩]
def c94_1 : ACode := .ops [
    ⟨(some 6), none, .q (.mv (.t 0)), []⟩,
    ⟨(some 7), none, .q (.mv (.t 1)), []⟩,
    ⟨(some 8), none, .q (.bin .sub (.t 6) (.t 7)), []⟩,
    ⟨(some 9), none, .q (.bin .lss (.t 8) (.v (.int .i64 0))), []⟩,
    ⟨(some 10), none, .q (.mv (.t 0)), []⟩,
    ⟨(some 11), none, .q (.mv (.t 1)), []⟩,
    ⟨(some 12), none, .q (.bin .sub (.t 10) (.t 11)), []⟩,
    ⟨(some 13), none, .e (.call 115 [(.t 12)]), []⟩,
    ⟨(some 14), none, .e (.call 116 [(.t 9), (.v (.int .u64 0)), (.t 13)]), []⟩,
    ⟨(some 15), none, .q (.ext 0 (.t 14)), []⟩,
    ⟨(some 16), none, .q (.ext 1 (.t 14)), []⟩,
    ⟨(some 4), none, .q (.mv (.t 15)), []⟩,
    ⟨(some 5), none, .q (.mv (.t 16)), []⟩]
def c94_2 : ACode := .seq c94_1 .ret
def c94_3 : ACode := .seq c94_0 c94_2
@[go_sem] theorem c94_0_wp : type_of% (wp_of c94_0.eq_1) := wp_of c94_0.eq_1
@[go_sem] theorem c94_1_wp : type_of% (wp_of c94_1.eq_1) := wp_of c94_1.eq_1
@[go_sem] theorem c94_2_wp : type_of% (wp_of c94_2.eq_1) := wp_of c94_2.eq_1
@[go_sem] theorem c94_3_wp : type_of% (wp_of c94_3.eq_1) := wp_of c94_3.eq_1
def c94 : AFn := ⟨17, [.t 4, .t 5], c94_3⟩
set_option maxRecDepth 100000 in
theorem c94_ok : compF Tryz.prog Tryz.f94 = some c94 := by kernel_rfl
theorem a94 {args : List AV} {σ : ASt} {R : AV → ASt → Prop} (hl : args.length ≤ 17) (h : c94_3.wp Tryz.prog (RetQ [.t 4, .t 5] R) (init args) σ) : ACalls Tryz.prog 94 args σ R := acalls_of Tryz.func94 c94_ok hl h

/-! 95: tabular/deci.Mul -/
def c95_0 : ACode := .ops [
    ⟨(some 4), none, .q (.mv (.v (.int .i64 0))), []⟩,
    ⟨(some 5), none, .q (.mv (.v (.bool false))), []⟩]
def c95_1 : ACode := .ops [
    ⟨(some 11), none, .q (.mv (.t 0)), []⟩,
    ⟨(some 12), none, .e (.call 115 [(.t 11)]), []⟩,
    ⟨(some 13), none, .q (.mv (.t 1)), []⟩,
    ⟨(some 14), none, .e (.call 115 [(.t 13)]), []⟩,
    ⟨(some 15), none, .e (.call 122 [(.t 12), (.t 14)]), []⟩,
    ⟨(some 10), none, .q (.mv (.t 15)), []⟩,
    ⟨(some 16), none, .q (.ext 0 (.t 10)), []⟩,
    ⟨(some 17), none, .q (.ext 1 (.t 10)), []⟩,
    ⟨(some 6), none, .q (.mv (.t 16)), []⟩,
    ⟨(some 7), none, .q (.mv (.t 17)), []⟩]
def c95_2 : ACode := .ops [
    ⟨(some 19), none, .q (.mv (.t 6)), []⟩,
    ⟨(some 20), none, .q (.mv (.t 7)), []⟩,
    ⟨(some 21), none, .e (.call 142 [(.t 19), (.t 20), (.v (.int .u64 10000))]), []⟩,
    ⟨(some 18), none, .q (.mv (.t 21)), []⟩,
    ⟨(some 22), none, .q (.ext 0 (.t 18)), []⟩,
    ⟨(some 23), none, .q (.ext 1 (.t 18)), []⟩,
    ⟨(some 8), none, .q (.mv (.t 22)), []⟩,
    ⟨(some 9), none, .q (.mv (.t 23)), []⟩]
def c95_3 : ACode := .ops [
    ⟨(some 24), none, .q (.mv (.t 9)), []⟩,
    ⟨(some 25), none, .q (.un .not (.t 24)), []⟩]
def c95_4 : ACode := .ops [
    ⟨(some 4), none, .q (.mv (.v (.int .i64 0))), []⟩,
    ⟨(some 5), none, .q (.mv (.v (.bool false))), []⟩]
def c95_5 : ACode := .seq c95_4 .ret
def c95_6 : ACode := .cond (.t 25) c95_5 .skip
def c95_7 : ACode := .seq c95_3 c95_6
def c95_8 : ACode := .ops [
    ⟨(some 26), none, .q (.mv (.t 0)), []⟩,
    ⟨(some 27), none, .q (.bin .lss (.t 26) (.v (.int .i64 0))), []⟩,
    ⟨(some 28), none, .q (.mv (.t 1)), []⟩,
    ⟨(some 29), none, .q (.bin .lss (.t 28) (.v (.int .i64 0))), []⟩,
    ⟨(some 30), none, .q (.eq .b true (.t 27) (.t 29)), []⟩,
    ⟨(some 31), none, .q (.mv (.t 8)), []⟩,
    ⟨(some 32), none, .e (.call 116 [(.t 30), (.v (.int .u64 0)), (.t 31)]), []⟩,
    ⟨(some 33), none, .q (.ext 0 (.t 32)), []⟩,
    ⟨(some 34), none, .q (.ext 1 (.t 32)), []⟩,
    ⟨(some 4), none, .q (.mv (.t 33)), []⟩,
    ⟨(some 5), none, .q (.mv (.t 34)), []⟩]
def c95_9 : ACode := .seq c95_8 .ret
def c95_10 : ACode := .seq c95_7 c95_9
def c95_11 : ACode := .seq c95_2 c95_10
def c95_12 : ACode := .seq c95_1 c95_11
def c95_13 : ACode := .seq c95_0 c95_12
@[go_sem] theorem c95_0_wp : type_of% (wp_of c95_0.eq_1) := wp_of c95_0.eq_1
@[go_sem] theorem c95_1_wp : type_of% (wp_of c95_1.eq_1) := wp_of c95_1.eq_1
@[go_sem] theorem c95_2_wp : type_of% (wp_of c95_2.eq_1) := wp_of c95_2.eq_1
@[go_sem] theorem c95_3_wp : type_of% (wp_of c95_3.eq_1) := wp_of c95_3.eq_1
@[go_sem] theorem c95_4_wp : type_of% (wp_of c95_4.eq_1) := wp_of c95_4.eq_1
@[go_sem] theorem c95_5_wp : type_of% (wp_of c95_5.eq_1) := wp_of c95_5.eq_1
@[go_sem] theorem c95_6_wp : type_of% (wp_of c95_6.eq_1) := wp_of c95_6.eq_1
@[go_sem] theorem c95_7_wp : type_of% (wp_of c95_7.eq_1) := wp_of c95_7.eq_1
@[go_sem] theorem c95_8_wp : type_of% (wp_of c95_8.eq_1) := wp_of c95_8.eq_1
@[go_sem] theorem c95_9_wp : type_of% (wp_of c95_9.eq_1) := wp_of c95_9.eq_1
@[go_sem] theorem c95_10_wp : type_of% (wp_of c95_10.eq_1) := wp_of c95_10.eq_1
@[go_sem] theorem c95_11_wp : type_of% (wp_of c95_11.eq_1) := wp_of c95_11.eq_1
@[go_sem] theorem c95_12_wp : type_of% (wp_of c95_12.eq_1) := wp_of c95_12.eq_1
@[go_sem] theorem c95_13_wp : type_of% (wp_of c95_13.eq_1) := wp_of c95_13.eq_1
def c95 : AFn := ⟨35, [.t 4, .t 5], c95_13⟩
set_option maxRecDepth 100000 in
theorem c95_ok : compF Tryz.prog Tryz.f95 = some c95 := by kernel_rfl
theorem a95 {args : List AV} {σ : ASt} {R : AV → ASt → Prop} (hl : args.length ≤ 35) (h : c95_13.wp Tryz.prog (RetQ [.t 4, .t 5] R) (init args) σ) : ACalls Tryz.prog 95 args σ R := acalls_of Tryz.func95 c95_ok hl h

/-! 96: tabular/deci.Div -/
def c96_0 : ACode := .ops [
    ⟨(some 4), none, .q (.mv (.v (.int .i64 0))), []⟩,
    ⟨(some 5), none, .q (.mv (.v (.bool false))), []⟩]
def c96_1 : ACode := .ops [
    ⟨(some 10), none, .q (.mv (.t 1)), []⟩,
    ⟨(some 11), none, .q (.bin .eql (.t 10) (.v (.int .i64 0))), []⟩]
def c96_2 : ACode := .ops [
    ⟨(some 4), none, .q (.mv (.v (.int .i64 0))), []⟩,
    ⟨(some 5), none, .q (.mv (.v (.bool false))), []⟩]
def c96_3 : ACode := .seq c96_2 .ret
def c96_4 : ACode := .cond (.t 11) c96_3 .skip
def c96_5 : ACode := .seq c96_1 c96_4
def c96_6 : ACode := .ops [
    ⟨(some 13), none, .q (.mv (.t 0)), []⟩,
    ⟨(some 14), none, .e (.call 115 [(.t 13)]), []⟩,
    ⟨(some 15), none, .e (.call 122 [(.t 14), (.v (.int .u64 10000))]), []⟩,
    ⟨(some 12), none, .q (.mv (.t 15)), []⟩,
    ⟨(some 16), none, .q (.ext 0 (.t 12)), []⟩,
    ⟨(some 17), none, .q (.ext 1 (.t 12)), []⟩,
    ⟨(some 6), none, .q (.mv (.t 16)), []⟩,
    ⟨(some 7), none, .q (.mv (.t 17)), []⟩]
def c96_7 : ACode := .ops [
    ⟨(some 19), none, .q (.mv (.t 6)), []⟩,
    ⟨(some 20), none, .q (.mv (.t 7)), []⟩,
    ⟨(some 21), none, .q (.mv (.t 1)), []⟩,
    ⟨(some 22), none, .e (.call 115 [(.t 21)]), []⟩,
    ⟨(some 23), none, .e (.call 142 [(.t 19), (.t 20), (.t 22)]), []⟩,
    ⟨(some 18), none, .q (.mv (.t 23)), []⟩,
    ⟨(some 24), none, .q (.ext 0 (.t 18)), []⟩,
    ⟨(some 25), none, .q (.ext 1 (.t 18)), []⟩,
    ⟨(some 8), none, .q (.mv (.t 24)), []⟩,
    ⟨(some 9), none, .q (.mv (.t 25)), []⟩]
def c96_8 : ACode := .ops [
    ⟨(some 26), none, .q (.mv (.t 9)), []⟩,
    ⟨(some 27), none, .q (.un .not (.t 26)), []⟩]
def c96_9 : ACode := .ops [
    ⟨(some 4), none, .q (.mv (.v (.int .i64 0))), []⟩,
    ⟨(some 5), none, .q (.mv (.v (.bool false))), []⟩]
def c96_10 : ACode := .seq c96_9 .ret
def c96_11 : ACode := .cond (.t 27) c96_10 .skip
def c96_12 : ACode := .seq c96_8 c96_11
def c96_13 : ACode := .ops [
    ⟨(some 28), none, .q (.mv (.t 0)), []⟩,
    ⟨(some 29), none, .q (.bin .lss (.t 28) (.v (.int .i64 0))), []⟩,
    ⟨(some 30), none, .q (.mv (.t 1)), []⟩,
    ⟨(some 31), none, .q (.bin .lss (.t 30) (.v (.int .i64 0))), []⟩,
    ⟨(some 32), none, .q (.eq .b true (.t 29) (.t 31)), []⟩,
    ⟨(some 33), none, .q (.mv (.t 8)), []⟩,
    ⟨(some 34), none, .e (.call 116 [(.t 32), (.v (.int .u64 0)), (.t 33)]), []⟩,
    ⟨(some 35), none, .q (.ext 0 (.t 34)), []⟩,
    ⟨(some 36), none, .q (.ext 1 (.t 34)), []⟩,
    ⟨(some 4), none, .q (.mv (.t 35)), []⟩,
    ⟨(some 5), none, .q (.mv (.t 36)), []⟩]
def c96_14 : ACode := .seq c96_13 .ret
def c96_15 : ACode := .seq c96_12 c96_14
def c96_16 : ACode := .seq c96_7 c96_15
def c96_17 : ACode := .seq c96_6 c96_16
def c96_18 : ACode := .seq c96_5 c96_17
def c96_19 : ACode := .seq c96_0 c96_18
@[go_sem] theorem c96_0_wp : type_of% (wp_of c96_0.eq_1) := wp_of c96_0.eq_1
@[go_sem] theorem c96_1_wp : type_of% (wp_of c96_1.eq_1) := wp_of c96_1.eq_1
@[go_sem] theorem c96_2_wp : type_of% (wp_of c96_2.eq_1) := wp_of c96_2.eq_1
@[go_sem] theorem c96_3_wp : type_of% (wp_of c96_3.eq_1) := wp_of c96_3.eq_1
@[go_sem] theorem c96_4_wp : type_of% (wp_of c96_4.eq_1) := wp_of c96_4.eq_1
@[go_sem] theorem c96_5_wp : type_of% (wp_of c96_5.eq_1) := wp_of c96_5.eq_1
@[go_sem] theorem c96_6_wp : type_of% (wp_of c96_6.eq_1) := wp_of c96_6.eq_1
@[go_sem] theorem c96_7_wp : type_of% (wp_of c96_7.eq_1) := wp_of c96_7.eq_1
@[go_sem] theorem c96_8_wp : type_of% (wp_of c96_8.eq_1) := wp_of c96_8.eq_1
@[go_sem] theorem c96_9_wp : type_of% (wp_of c96_9.eq_1) := wp_of c96_9.eq_1
@[go_sem] theorem c96_10_wp : type_of% (wp_of c96_10.eq_1) := wp_of c96_10.eq_1
@[go_sem] theorem c96_11_wp : type_of% (wp_of c96_11.eq_1) := wp_of c96_11.eq_1
@[go_sem] theorem c96_12_wp : type_of% (wp_of c96_12.eq_1) := wp_of c96_12.eq_1
@[go_sem] theorem c96_13_wp : type_of% (wp_of c96_13.eq_1) := wp_of c96_13.eq_1
@[go_sem] theorem c96_14_wp : type_of% (wp_of c96_14.eq_1) := wp_of c96_14.eq_1
@[go_sem] theorem c96_15_wp : type_of% (wp_of c96_15.eq_1) := wp_of c96_15.eq_1
@[go_sem] theorem c96_16_wp : type_of% (wp_of c96_16.eq_1) := wp_of c96_16.eq_1
@[go_sem] theorem c96_17_wp : type_of% (wp_of c96_17.eq_1) := wp_of c96_17.eq_1
@[go_sem] theorem c96_18_wp : type_of% (wp_of c96_18.eq_1) := wp_of c96_18.eq_1
@[go_sem] theorem c96_19_wp : type_of% (wp_of c96_19.eq_1) := wp_of c96_19.eq_1
def c96 : AFn := ⟨37, [.t 4, .t 5], c96_19⟩
set_option maxRecDepth 100000 in
theorem c96_ok : compF Tryz.prog Tryz.f96 = some c96 := by kernel_rfl
theorem a96 {args : List AV} {σ : ASt} {R : AV → ASt → Prop} (hl : args.length ≤ 37) (h : c96_19.wp Tryz.prog (RetQ [.t 4, .t 5] R) (init args) σ) : ACalls Tryz.prog 96 args σ R := acalls_of Tryz.func96 c96_ok hl h

/-! 100: tabular/deci.Parse -/
def c100_0 : ACode := .ops [
    ⟨(some 2), none, .q (.mv (.v (.int .i64 0))), []⟩,
    ⟨(some 3), none, .q (.mv (.v (.bool false))), []⟩]
def c100_1 : ACode := .ops [
    ⟨(some 13), none, .q (.mv (.t 0)), []⟩,
    ⟨(some 14), none, .e (.call 110 [(.t 13), (.v (.str [45]))]), []⟩,
    ⟨(some 12), none, .q (.mv (.t 14)), []⟩,
    ⟨(some 15), none, .q (.ext 0 (.t 12)), []⟩,
    ⟨(some 16), none, .q (.ext 1 (.t 12)), []⟩,
    ⟨(some 4), none, .q (.mv (.t 15)), []⟩,
    ⟨(some 5), none, .q (.mv (.t 16)), []⟩]
def c100_2 : ACode := .ops [
    ⟨(some 18), none, .q (.mv (.t 4)), []⟩,
    ⟨(some 19), none, .e (.call 144 [(.t 18), (.v (.str [46]))]), []⟩,
    ⟨(some 17), none, .q (.mv (.t 19)), []⟩,
    ⟨(some 20), none, .q (.ext 0 (.t 17)), []⟩,
    ⟨(some 21), none, .q (.ext 1 (.t 17)), []⟩,
    ⟨(some 22), none, .q (.ext 2 (.t 17)), []⟩,
    ⟨(some 6), none, .q (.mv (.t 20)), []⟩,
    ⟨(some 7), none, .q (.mv (.t 21)), []⟩,
    ⟨(some 8), none, .q (.mv (.t 22)), []⟩]
def c100_3 : ACode := .ops [
    ⟨(some 23), none, .q (.mv (.t 6)), []⟩,
    ⟨(some 24), none, .q (.bin .eql (.t 23) (.v (.str []))), []⟩,
    ⟨(some 25), none, .q (.mv (.t 24)), []⟩,
    ⟨(some 26), (some (25, false)), .q (.mv (.t 8)), []⟩,
    ⟨(some 27), (some (25, false)), .q (.mv (.t 26)), []⟩,
    ⟨(some 28), (some (27, true)), .q (.mv (.t 7)), []⟩,
    ⟨(some 29), (some (27, true)), .q (.bin .eql (.t 28) (.v (.str []))), []⟩,
    ⟨(some 30), (some (27, true)), .q (.mv (.t 29)), []⟩,
    ⟨(some 31), (some (30, false)), .q (.mv (.t 7)), []⟩,
    ⟨(some 32), (some (30, false)), .q (.lenS (.t 31)), []⟩,
    ⟨(some 33), (some (30, false)), .q (.bin .gtr (.t 32) (.v (.int .i64 4))), []⟩,
    ⟨(some 34), (some (27, true)), .q (.pick (.t 30) (.v (.bool true)) (.t 33)), []⟩,
    ⟨(some 35), (some (25, false)), .q (.pick (.t 27) (.t 34) (.v (.bool false))), []⟩,
    ⟨(some 36), none, .q (.pick (.t 25) (.v (.bool true)) (.t 35)), []⟩]
def c100_4 : ACode := .ops [
    ⟨(some 2), none, .q (.mv (.v (.int .i64 0))), []⟩,
    ⟨(some 3), none, .q (.mv (.v (.bool false))), []⟩]
def c100_5 : ACode := .seq c100_4 .ret
def c100_6 : ACode := .cond (.t 36) c100_5 .skip
def c100_7 : ACode := .seq c100_3 c100_6
def c100_8 : ACode := .ops [
    ⟨(some 9), none, .q (.mv (.v (.int .u64 0))), []⟩]
def c100_9 : ACode := .ops [
    ⟨(some 37), none, .q (.mv (.t 6)), []⟩,
    ⟨(some 38), none, .q (.mv (.t 7)), []⟩,
    ⟨(some 39), none, .q (.bin .add (.t 37) (.t 38)), []⟩,
    ⟨(some 40), none, .q (.mv (.t 7)), []⟩,
    ⟨(some 41), none, .q (.lenS (.t 40)), []⟩,
    ⟨(some 42), none, .q (.slfrom (true, 0) (.v (.str [48, 48, 48, 48])) (.t 41)), []⟩,
    ⟨(some 43), none, .q (.bin .add (.t 39) (.t 42)), []⟩,
    ⟨(some 44), none, .e (.s2b (.t 43)), []⟩,
    ⟨(some 45), none, .q (.len (.t 44)), []⟩,
    ⟨(some 46), none, .q (.mv (.v (.int .i64 0))), []⟩]
def c100_10 : ACode := .ops [
    ⟨(some 47), none, .q (.bin .lss (.t 46) (.t 45)), []⟩]
def c100_11 : ACode := .cond (.t 47) .skip (.exit 0)
def c100_12 : ACode := .ops [
    ⟨(some 48), none, .q (.ia 1 (.t 44) (.t 46)), []⟩,
    ⟨(some 49), none, .q (.ld none (.t 48)), []⟩,
    ⟨(some 11), none, .q (.mv (.t 49)), []⟩]
def c100_13 : ACode := .ops [
    ⟨(some 50), none, .q (.mv (.t 11)), []⟩,
    ⟨(some 51), none, .q (.bin .lss (.t 50) (.v (.int .u8 48))), []⟩,
    ⟨(some 52), none, .q (.mv (.t 51)), []⟩,
    ⟨(some 53), (some (52, false)), .q (.mv (.t 11)), []⟩,
    ⟨(some 54), (some (52, false)), .q (.bin .gtr (.t 53) (.v (.int .u8 57))), []⟩,
    ⟨(some 55), none, .q (.pick (.t 52) (.v (.bool true)) (.t 54)), []⟩,
    ⟨(some 56), none, .q (.mv (.t 55)), []⟩,
    ⟨(some 57), (some (56, false)), .q (.mv (.t 9)), []⟩,
    ⟨(some 58), (some (56, false)), .q (.bin .gtr (.t 57) (.v (.int .u64 99999999999999999))), []⟩,
    ⟨(some 59), none, .q (.pick (.t 56) (.v (.bool true)) (.t 58)), []⟩]
def c100_14 : ACode := .ops [
    ⟨(some 2), none, .q (.mv (.v (.int .i64 0))), []⟩,
    ⟨(some 3), none, .q (.mv (.v (.bool false))), []⟩]
def c100_15 : ACode := .seq c100_14 .ret
def c100_16 : ACode := .cond (.t 59) c100_15 .skip
def c100_17 : ACode := .seq c100_13 c100_16
def c100_18 : ACode := .ops [
    ⟨(some 60), none, .q (.mv (.t 9)), []⟩,
    ⟨(some 61), none, .q (.bin .mul (.v (.int .u64 10)) (.t 60)), []⟩,
    ⟨(some 62), none, .q (.mv (.t 11)), []⟩,
    ⟨(some 63), none, .q (.bin .sub (.t 62) (.v (.int .u8 48))), []⟩,
    ⟨(some 64), none, .q (.conv .u64 (.t 63)), []⟩,
    ⟨(some 65), none, .q (.bin .add (.t 61) (.t 64)), []⟩,
    ⟨(some 9), none, .q (.mv (.t 65)), []⟩]
def c100_19 : ACode := .seq c100_17 c100_18
def c100_20 : ACode := .seq c100_12 c100_19
def c100_21 : ACode := .block 1 c100_20
def c100_22 : ACode := .ops [
    ⟨(some 66), none, .q (.bin .add (.t 46) (.v (.int .i64 1))), []⟩,
    ⟨(some 46), none, .q (.mv (.t 66)), []⟩]
def c100_23 : ACode := .seq c100_21 c100_22
def c100_24 : ACode := .seq c100_11 c100_23
def c100_25 : ACode := .seq c100_10 c100_24
def c100_26 : ACode := .loop c100_25
def c100_27 : ACode := .block 0 c100_26
def c100_28 : ACode := .seq c100_9 c100_27
def c100_29 : ACode := .ops [
    ⟨(some 67), none, .q (.mv (.t 5)), []⟩,
    ⟨(some 68), none, .q (.mv (.t 9)), []⟩,
    ⟨(some 69), none, .e (.call 116 [(.t 67), (.v (.int .u64 0)), (.t 68)]), []⟩,
    ⟨(some 70), none, .q (.ext 0 (.t 69)), []⟩,
    ⟨(some 71), none, .q (.ext 1 (.t 69)), []⟩,
    ⟨(some 2), none, .q (.mv (.t 70)), []⟩,
    ⟨(some 3), none, .q (.mv (.t 71)), []⟩]
def c100_30 : ACode := .seq c100_29 .ret
def c100_31 : ACode := .seq c100_28 c100_30
def c100_32 : ACode := .seq c100_8 c100_31
def c100_33 : ACode := .seq c100_7 c100_32
def c100_34 : ACode := .seq c100_2 c100_33
def c100_35 : ACode := .seq c100_1 c100_34
def c100_36 : ACode := .seq c100_0 c100_35
@[go_sem] theorem c100_0_wp : type_of% (wp_of c100_0.eq_1) := wp_of c100_0.eq_1
@[go_sem] theorem c100_1_wp : type_of% (wp_of c100_1.eq_1) := wp_of c100_1.eq_1
@[go_sem] theorem c100_2_wp : type_of% (wp_of c100_2.eq_1) := wp_of c100_2.eq_1
@[go_sem] theorem c100_3_wp : type_of% (wp_of c100_3.eq_1) := wp_of c100_3.eq_1
@[go_sem] theorem c100_4_wp : type_of% (wp_of c100_4.eq_1) := wp_of c100_4.eq_1
@[go_sem] theorem c100_5_wp : type_of% (wp_of c100_5.eq_1) := wp_of c100_5.eq_1
@[go_sem] theorem c100_6_wp : type_of% (wp_of c100_6.eq_1) := wp_of c100_6.eq_1
@[go_sem] theorem c100_7_wp : type_of% (wp_of c100_7.eq_1) := wp_of c100_7.eq_1
@[go_sem] theorem c100_8_wp : type_of% (wp_of c100_8.eq_1) := wp_of c100_8.eq_1
@[go_sem] theorem c100_9_wp : type_of% (wp_of c100_9.eq_1) := wp_of c100_9.eq_1
@[go_sem] theorem c100_10_wp : type_of% (wp_of c100_10.eq_1) := wp_of c100_10.eq_1
@[go_sem] theorem c100_11_wp : type_of% (wp_of c100_11.eq_1) := wp_of c100_11.eq_1
@[go_sem] theorem c100_12_wp : type_of% (wp_of c100_12.eq_1) := wp_of c100_12.eq_1
@[go_sem] theorem c100_13_wp : type_of% (wp_of c100_13.eq_1) := wp_of c100_13.eq_1
@[go_sem] theorem c100_14_wp : type_of% (wp_of c100_14.eq_1) := wp_of c100_14.eq_1
@[go_sem] theorem c100_15_wp : type_of% (wp_of c100_15.eq_1) := wp_of c100_15.eq_1
@[go_sem] theorem c100_16_wp : type_of% (wp_of c100_16.eq_1) := wp_of c100_16.eq_1
@[go_sem] theorem c100_17_wp : type_of% (wp_of c100_17.eq_1) := wp_of c100_17.eq_1
@[go_sem] theorem c100_18_wp : type_of% (wp_of c100_18.eq_1) := wp_of c100_18.eq_1
@[go_sem] theorem c100_19_wp : type_of% (wp_of c100_19.eq_1) := wp_of c100_19.eq_1
@[go_sem] theorem c100_20_wp : type_of% (wp_of c100_20.eq_1) := wp_of c100_20.eq_1
@[go_sem] theorem c100_21_wp : type_of% (wp_of c100_21.eq_1) := wp_of c100_21.eq_1
@[go_sem] theorem c100_22_wp : type_of% (wp_of c100_22.eq_1) := wp_of c100_22.eq_1
@[go_sem] theorem c100_23_wp : type_of% (wp_of c100_23.eq_1) := wp_of c100_23.eq_1
@[go_sem] theorem c100_24_wp : type_of% (wp_of c100_24.eq_1) := wp_of c100_24.eq_1
@[go_sem] theorem c100_25_wp : type_of% (wp_of c100_25.eq_1) := wp_of c100_25.eq_1
@[go_sem] theorem c100_26_wp : type_of% (wp_of c100_26.eq_1) := wp_of c100_26.eq_1
@[go_sem] theorem c100_27_wp : type_of% (wp_of c100_27.eq_1) := wp_of c100_27.eq_1
@[go_sem] theorem c100_28_wp : type_of% (wp_of c100_28.eq_1) := wp_of c100_28.eq_1
@[go_sem] theorem c100_29_wp : type_of% (wp_of c100_29.eq_1) := wp_of c100_29.eq_1
@[go_sem] theorem c100_30_wp : type_of% (wp_of c100_30.eq_1) := wp_of c100_30.eq_1
@[go_sem] theorem c100_31_wp : type_of% (wp_of c100_31.eq_1) := wp_of c100_31.eq_1
@[go_sem] theorem c100_32_wp : type_of% (wp_of c100_32.eq_1) := wp_of c100_32.eq_1
@[go_sem] theorem c100_33_wp : type_of% (wp_of c100_33.eq_1) := wp_of c100_33.eq_1
@[go_sem] theorem c100_34_wp : type_of% (wp_of c100_34.eq_1) := wp_of c100_34.eq_1
@[go_sem] theorem c100_35_wp : type_of% (wp_of c100_35.eq_1) := wp_of c100_35.eq_1
@[go_sem] theorem c100_36_wp : type_of% (wp_of c100_36.eq_1) := wp_of c100_36.eq_1
def c100 : AFn := ⟨72, [.t 2, .t 3], c100_36⟩
set_option maxRecDepth 100000 in
theorem c100_ok : compF Tryz.prog Tryz.f100 = some c100 := by kernel_rfl
theorem a100 {args : List AV} {σ : ASt} {R : AV → ASt → Prop} (hl : args.length ≤ 72) (h : c100_36.wp Tryz.prog (RetQ [.t 2, .t 3] R) (init args) σ) : ACalls Tryz.prog 100 args σ R := acalls_of Tryz.func100 c100_ok hl h

/-! 102: (tabular/deci.Dec).Text -/
def c102_0 : ACode := .ops [
    ⟨(some 2), none, .q (.mv (.v (.str []))), []⟩]
def c102_1 : ACode := .ops [
    ⟨(some 6), none, .q (.mv (.t 0)), []⟩,
    ⟨(some 7), none, .e (.call 115 [(.t 6)]), []⟩,
    ⟨(some 3), none, .q (.mv (.t 7)), []⟩]
def c102_2 : ACode := .ops [
    ⟨(some 8), none, .q (.mv (.t 3)), []⟩,
    ⟨(some 9), none, .q (.bin .quo (.t 8) (.v (.int .u64 10000))), []⟩,
    ⟨(some 10), none, .e (.call 146 [(.t 9), (.v (.int .i64 10))]), []⟩,
    ⟨(some 4), none, .q (.mv (.t 10)), []⟩]
def c102_3 : ACode := .ops [
    ⟨(some 11), none, .q (.mv (.t 3)), []⟩,
    ⟨(some 12), none, .q (.bin .rem (.t 11) (.v (.int .u64 10000))), []⟩,
    ⟨(some 5), none, .q (.mv (.t 12)), []⟩]
def c102_4 : ACode := .ops [
    ⟨(some 13), none, .q (.mv (.t 5)), []⟩,
    ⟨(some 14), none, .q (.bin .gtr (.t 13) (.v (.int .u64 0))), []⟩]
def c102_5 : ACode := .ops [
    ⟨(some 15), none, .q (.mv (.t 4)), []⟩,
    ⟨(some 16), none, .q (.mv (.t 5)), []⟩,
    ⟨(some 17), none, .q (.bin .add (.v (.int .u64 10000)) (.t 16)), []⟩,
    ⟨(some 18), none, .e (.call 146 [(.t 17), (.v (.int .i64 10))]), []⟩,
    ⟨(some 19), none, .q (.slfrom (true, 0) (.t 18) (.v (.int .i64 1))), []⟩,
    ⟨(some 20), none, .e (.call 147 [(.t 19), (.v (.str [48]))]), []⟩,
    ⟨(some 21), none, .q (.bin .add (.v (.str [46])) (.t 20)), []⟩,
    ⟨(some 22), none, .q (.bin .add (.t 15) (.t 21)), []⟩,
    ⟨(some 4), none, .q (.mv (.t 22)), []⟩]
def c102_6 : ACode := .cond (.t 14) c102_5 .skip
def c102_7 : ACode := .seq c102_4 c102_6
def c102_8 : ACode := .seq c102_3 c102_7
def c102_9 : ACode := .ops [
    ⟨(some 23), none, .q (.mv (.t 0)), []⟩,
    ⟨(some 24), none, .q (.bin .lss (.t 23) (.v (.int .i64 0))), []⟩]
def c102_10 : ACode := .ops [
    ⟨(some 25), none, .q (.mv (.t 4)), []⟩,
    ⟨(some 26), none, .q (.bin .add (.v (.str [45])) (.t 25)), []⟩,
    ⟨(some 2), none, .q (.mv (.t 26)), []⟩]
def c102_11 : ACode := .seq c102_10 .ret
def c102_12 : ACode := .cond (.t 24) c102_11 .skip
def c102_13 : ACode := .seq c102_9 c102_12
def c102_14 : ACode := .ops [
    ⟨(some 27), none, .q (.mv (.t 4)), []⟩,
    ⟨(some 2), none, .q (.mv (.t 27)), []⟩]
def c102_15 : ACode := .seq c102_14 .ret
def c102_16 : ACode := .seq c102_13 c102_15
def c102_17 : ACode := .seq c102_8 c102_16
def c102_18 : ACode := .seq c102_2 c102_17
def c102_19 : ACode := .seq c102_1 c102_18
def c102_20 : ACode := .seq c102_0 c102_19
@[go_sem] theorem c102_0_wp : type_of% (wp_of c102_0.eq_1) := wp_of c102_0.eq_1
@[go_sem] theorem c102_1_wp : type_of% (wp_of c102_1.eq_1) := wp_of c102_1.eq_1
@[go_sem] theorem c102_2_wp : type_of% (wp_of c102_2.eq_1) := wp_of c102_2.eq_1
@[go_sem] theorem c102_3_wp : type_of% (wp_of c102_3.eq_1) := wp_of c102_3.eq_1
@[go_sem] theorem c102_4_wp : type_of% (wp_of c102_4.eq_1) := wp_of c102_4.eq_1
@[go_sem] theorem c102_5_wp : type_of% (wp_of c102_5.eq_1) := wp_of c102_5.eq_1
@[go_sem] theorem c102_6_wp : type_of% (wp_of c102_6.eq_1) := wp_of c102_6.eq_1
@[go_sem] theorem c102_7_wp : type_of% (wp_of c102_7.eq_1) := wp_of c102_7.eq_1
@[go_sem] theorem c102_8_wp : type_of% (wp_of c102_8.eq_1) := wp_of c102_8.eq_1
@[go_sem] theorem c102_9_wp : type_of% (wp_of c102_9.eq_1) := wp_of c102_9.eq_1
@[go_sem] theorem c102_10_wp : type_of% (wp_of c102_10.eq_1) := wp_of c102_10.eq_1
@[go_sem] theorem c102_11_wp : type_of% (wp_of c102_11.eq_1) := wp_of c102_11.eq_1
@[go_sem] theorem c102_12_wp : type_of% (wp_of c102_12.eq_1) := wp_of c102_12.eq_1
@[go_sem] theorem c102_13_wp : type_of% (wp_of c102_13.eq_1) := wp_of c102_13.eq_1
@[go_sem] theorem c102_14_wp : type_of% (wp_of c102_14.eq_1) := wp_of c102_14.eq_1
@[go_sem] theorem c102_15_wp : type_of% (wp_of c102_15.eq_1) := wp_of c102_15.eq_1
@[go_sem] theorem c102_16_wp : type_of% (wp_of c102_16.eq_1) := wp_of c102_16.eq_1
@[go_sem] theorem c102_17_wp : type_of% (wp_of c102_17.eq_1) := wp_of c102_17.eq_1
@[go_sem] theorem c102_18_wp : type_of% (wp_of c102_18.eq_1) := wp_of c102_18.eq_1
@[go_sem] theorem c102_19_wp : type_of% (wp_of c102_19.eq_1) := wp_of c102_19.eq_1
@[go_sem] theorem c102_20_wp : type_of% (wp_of c102_20.eq_1) := wp_of c102_20.eq_1
def c102 : AFn := ⟨28, [.t 2], c102_20⟩
set_option maxRecDepth 100000 in
theorem c102_ok : compF Tryz.prog Tryz.f102 = some c102 := by kernel_rfl
theorem a102 {args : List AV} {σ : ASt} {R : AV → ASt → Prop} (hl : args.length ≤ 28) (h : c102_20.wp Tryz.prog (RetQ [.t 2] R) (init args) σ) : ACalls Tryz.prog 102 args σ R := acalls_of Tryz.func102 c102_ok hl h

/-! 113: tabular/deci.unit -/
def c113_0 : ACode := .ops [
    ⟨(some 2), none, .q (.mv (.v (.int .u64 0))), []⟩,
    ⟨(some 3), none, .q (.mv (.v (.bool false))), []⟩]
def c113_1 : ACode := .ops [
    ⟨(some 4), none, .q (.mv (.t 0)), []⟩,
    ⟨(some 5), none, .q (.bin .geq (.t 4) (.v (.int .i64 4))), []⟩,
    ⟨(some 6), none, .q (.mv (.t 5)), []⟩,
    ⟨(some 7), (some (6, false)), .q (.mv (.t 0)), []⟩,
    ⟨(some 8), (some (6, false)), .q (.bin .lss (.t 7) (.v (.int .i64 (-14)))), []⟩,
    ⟨(some 9), none, .q (.pick (.t 6) (.v (.bool true)) (.t 8)), []⟩]
def c113_2 : ACode := .ops [
    ⟨(some 2), none, .q (.mv (.v (.int .u64 0))), []⟩,
    ⟨(some 3), none, .q (.mv (.v (.bool false))), []⟩]
def c113_3 : ACode := .seq c113_2 .ret
def c113_4 : ACode := .cond (.t 9) c113_3 .skip
def c113_5 : ACode := .seq c113_1 c113_4
def c113_6 : ACode := .ops [
    ⟨(some 10), none, .q (.ld none (.v (.ptr 0 0))), []⟩,
    ⟨(some 11), none, .q (.mv (.t 0)), []⟩,
    ⟨(some 12), none, .q (.bin .sub (.v (.int .i64 4)) (.t 11)), []⟩,
    ⟨(some 13), none, .q (.ia 1 (.t 10) (.t 12)), []⟩,
    ⟨(some 14), none, .q (.ld none (.t 13)), []⟩,
    ⟨(some 2), none, .q (.mv (.t 14)), []⟩,
    ⟨(some 3), none, .q (.mv (.v (.bool true))), []⟩]
def c113_7 : ACode := .seq c113_6 .ret
def c113_8 : ACode := .seq c113_5 c113_7
def c113_9 : ACode := .seq c113_0 c113_8
@[go_sem] theorem c113_0_wp : type_of% (wp_of c113_0.eq_1) := wp_of c113_0.eq_1
@[go_sem] theorem c113_1_wp : type_of% (wp_of c113_1.eq_1) := wp_of c113_1.eq_1
@[go_sem] theorem c113_2_wp : type_of% (wp_of c113_2.eq_1) := wp_of c113_2.eq_1
@[go_sem] theorem c113_3_wp : type_of% (wp_of c113_3.eq_1) := wp_of c113_3.eq_1
@[go_sem] theorem c113_4_wp : type_of% (wp_of c113_4.eq_1) := wp_of c113_4.eq_1
@[go_sem] theorem c113_5_wp : type_of% (wp_of c113_5.eq_1) := wp_of c113_5.eq_1
@[go_sem] theorem c113_6_wp : type_of% (wp_of c113_6.eq_1) := wp_of c113_6.eq_1
@[go_sem] theorem c113_7_wp : type_of% (wp_of c113_7.eq_1) := wp_of c113_7.eq_1
@[go_sem] theorem c113_8_wp : type_of% (wp_of c113_8.eq_1) := wp_of c113_8.eq_1
@[go_sem] theorem c113_9_wp : type_of% (wp_of c113_9.eq_1) := wp_of c113_9.eq_1
def c113 : AFn := ⟨15, [.t 2, .t 3], c113_9⟩
set_option maxRecDepth 100000 in
theorem c113_ok : compF Tryz.prog Tryz.f113 = some c113 := by kernel_rfl
theorem a113 {args : List AV} {σ : ASt} {R : AV → ASt → Prop} (hl : args.length ≤ 15) (h : c113_9.wp Tryz.prog (RetQ [.t 2, .t 3] R) (init args) σ) : ACalls Tryz.prog 113 args σ R := acalls_of Tryz.func113 c113_ok hl h

/-! 114: (tabular/deci.Dec).Whole -/
def c114_0 : ACode := .ops [
    ⟨(some 2), none, .q (.mv (.v (.int .i64 0))), []⟩]
def c114_1 : ACode := .ops [
    ⟨(some 3), none, .q (.mv (.t 0)), []⟩,
    ⟨(some 4), none, .q (.bin .quo (.t 3) (.v (.int .i64 10000))), []⟩,
    ⟨(some 2), none, .q (.mv (.t 4)), []⟩]
def c114_2 : ACode := .seq c114_1 .ret
def c114_3 : ACode := .seq c114_0 c114_2
@[go_sem] theorem c114_0_wp : type_of% (wp_of c114_0.eq_1) := wp_of c114_0.eq_1
@[go_sem] theorem c114_1_wp : type_of% (wp_of c114_1.eq_1) := wp_of c114_1.eq_1
@[go_sem] theorem c114_2_wp : type_of% (wp_of c114_2.eq_1) := wp_of c114_2.eq_1
@[go_sem] theorem c114_3_wp : type_of% (wp_of c114_3.eq_1) := wp_of c114_3.eq_1
def c114 : AFn := ⟨5, [.t 2], c114_3⟩
set_option maxRecDepth 100000 in
theorem c114_ok : compF Tryz.prog Tryz.f114 = some c114 := by kernel_rfl
theorem a114 {args : List AV} {σ : ASt} {R : AV → ASt → Prop} (hl : args.length ≤ 5) (h : c114_3.wp Tryz.prog (RetQ [.t 2] R) (init args) σ) : ACalls Tryz.prog 114 args σ R := acalls_of Tryz.func114 c114_ok hl h

/-! 115: tabular/deci.size -/
def c115_0 : ACode := .ops [
    ⟨(some 2), none, .q (.mv (.v (.int .u64 0))), []⟩]
def c115_1 : ACode := .ops [
    ⟨(some 3), none, .q (.mv (.t 0)), []⟩,
    ⟨(some 4), none, .q (.bin .lss (.t 3) (.v (.int .i64 0))), []⟩]
def c115_2 : ACode := .ops [
    ⟨(some 5), none, .q (.mv (.t 0)), []⟩,
    ⟨(some 6), none, .q (.un .neg (.t 5)), []⟩,
    ⟨(some 7), none, .q (.conv .u64 (.t 6)), []⟩,
    ⟨(some 2), none, .q (.mv (.t 7)), []⟩]
def c115_3 : ACode := .seq c115_2 .ret
def c115_4 : ACode := .cond (.t 4) c115_3 .skip
def c115_5 : ACode := .seq c115_1 c115_4
def c115_6 : ACode := .ops [
    ⟨(some 8), none, .q (.mv (.t 0)), []⟩,
    ⟨(some 9), none, .q (.conv .u64 (.t 8)), []⟩,
    ⟨(some 2), none, .q (.mv (.t 9)), []⟩]
def c115_7 : ACode := .seq c115_6 .ret
def c115_8 : ACode := .seq c115_5 c115_7
def c115_9 : ACode := .seq c115_0 c115_8
@[go_sem] theorem c115_0_wp : type_of% (wp_of c115_0.eq_1) := wp_of c115_0.eq_1
@[go_sem] theorem c115_1_wp : type_of% (wp_of c115_1.eq_1) := wp_of c115_1.eq_1
@[go_sem] theorem c115_2_wp : type_of% (wp_of c115_2.eq_1) := wp_of c115_2.eq_1
@[go_sem] theorem c115_3_wp : type_of% (wp_of c115_3.eq_1) := wp_of c115_3.eq_1
@[go_sem] theorem c115_4_wp : type_of% (wp_of c115_4.eq_1) := wp_of c115_4.eq_1
@[go_sem] theorem c115_5_wp : type_of% (wp_of c115_5.eq_1) := wp_of c115_5.eq_1
@[go_sem] theorem c115_6_wp : type_of% (wp_of c115_6.eq_1) := wp_of c115_6.eq_1
@[go_sem] theorem c115_7_wp : type_of% (wp_of c115_7.eq_1) := wp_of c115_7.eq_1
@[go_sem] theorem c115_8_wp : type_of% (wp_of c115_8.eq_1) := wp_of c115_8.eq_1
@[go_sem] theorem c115_9_wp : type_of% (wp_of c115_9.eq_1) := wp_of c115_9.eq_1
def c115 : AFn := ⟨10, [.t 2], c115_9⟩
set_option maxRecDepth 100000 in
theorem c115_ok : compF Tryz.prog Tryz.f115 = some c115 := by kernel_rfl
theorem a115 {args : List AV} {σ : ASt} {R : AV → ASt → Prop} (hl : args.length ≤ 10) (h : c115_9.wp Tryz.prog (RetQ [.t 2] R) (init args) σ) : ACalls Tryz.prog 115 args σ R := acalls_of Tryz.func115 c115_ok hl h

/-! 116: tabular/deci.made -/
def c116_0 : ACode := .ops [
    ⟨(some 6), none, .q (.mv (.v (.int .i64 0))), []⟩,
    ⟨(some 7), none, .q (.mv (.v (.bool false))), []⟩]
def c116_1 : ACode := .ops [
    ⟨(some 8), none, .q (.mv (.t 1)), []⟩,
    ⟨(some 9), none, .q (.bin .gtr (.t 8) (.v (.int .u64 0))), []⟩,
    ⟨(some 10), none, .q (.mv (.t 9)), []⟩,
    ⟨(some 11), (some (10, false)), .q (.mv (.t 2)), []⟩,
    ⟨(some 12), (some (10, false)), .q (.bin .gtr (.t 11) (.v (.int .u64 999999999999999999))), []⟩,
    ⟨(some 13), none, .q (.pick (.t 10) (.v (.bool true)) (.t 12)), []⟩]
def c116_2 : ACode := .ops [
    ⟨(some 6), none, .q (.mv (.v (.int .i64 0))), []⟩,
    ⟨(some 7), none, .q (.mv (.v (.bool false))), []⟩]
def c116_3 : ACode := .seq c116_2 .ret
def c116_4 : ACode := .cond (.t 13) c116_3 .skip
def c116_5 : ACode := .seq c116_1 c116_4
def c116_6 : ACode := .ops [
    ⟨(some 14), none, .q (.mv (.t 0)), []⟩]
def c116_7 : ACode := .ops [
    ⟨(some 15), none, .q (.mv (.t 2)), []⟩,
    ⟨(some 16), none, .q (.conv .i64 (.t 15)), []⟩,
    ⟨(some 17), none, .q (.un .neg (.t 16)), []⟩,
    ⟨(some 6), none, .q (.mv (.t 17)), []⟩,
    ⟨(some 7), none, .q (.mv (.v (.bool true))), []⟩]
def c116_8 : ACode := .seq c116_7 .ret
def c116_9 : ACode := .cond (.t 14) c116_8 .skip
def c116_10 : ACode := .seq c116_6 c116_9
def c116_11 : ACode := .ops [
    ⟨(some 18), none, .q (.mv (.t 2)), []⟩,
    ⟨(some 19), none, .q (.conv .i64 (.t 18)), []⟩,
    ⟨(some 6), none, .q (.mv (.t 19)), []⟩,
    ⟨(some 7), none, .q (.mv (.v (.bool true))), []⟩]
def c116_12 : ACode := .seq c116_11 .ret
def c116_13 : ACode := .seq c116_10 c116_12
def c116_14 : ACode := .seq c116_5 c116_13
def c116_15 : ACode := .seq c116_0 c116_14
@[go_sem] theorem c116_0_wp : type_of% (wp_of c116_0.eq_1) := wp_of c116_0.eq_1
@[go_sem] theorem c116_1_wp : type_of% (wp_of c116_1.eq_1) := wp_of c116_1.eq_1
@[go_sem] theorem c116_2_wp : type_of% (wp_of c116_2.eq_1) := wp_of c116_2.eq_1
@[go_sem] theorem c116_3_wp : type_of% (wp_of c116_3.eq_1) := wp_of c116_3.eq_1
@[go_sem] theorem c116_4_wp : type_of% (wp_of c116_4.eq_1) := wp_of c116_4.eq_1
@[go_sem] theorem c116_5_wp : type_of% (wp_of c116_5.eq_1) := wp_of c116_5.eq_1
@[go_sem] theorem c116_6_wp : type_of% (wp_of c116_6.eq_1) := wp_of c116_6.eq_1
@[go_sem] theorem c116_7_wp : type_of% (wp_of c116_7.eq_1) := wp_of c116_7.eq_1
@[go_sem] theorem c116_8_wp : type_of% (wp_of c116_8.eq_1) := wp_of c116_8.eq_1
@[go_sem] theorem c116_9_wp : type_of% (wp_of c116_9.eq_1) := wp_of c116_9.eq_1
@[go_sem] theorem c116_10_wp : type_of% (wp_of c116_10.eq_1) := wp_of c116_10.eq_1
@[go_sem] theorem c116_11_wp : type_of% (wp_of c116_11.eq_1) := wp_of c116_11.eq_1
@[go_sem] theorem c116_12_wp : type_of% (wp_of c116_12.eq_1) := wp_of c116_12.eq_1
@[go_sem] theorem c116_13_wp : type_of% (wp_of c116_13.eq_1) := wp_of c116_13.eq_1
@[go_sem] theorem c116_14_wp : type_of% (wp_of c116_14.eq_1) := wp_of c116_14.eq_1
@[go_sem] theorem c116_15_wp : type_of% (wp_of c116_15.eq_1) := wp_of c116_15.eq_1
def c116 : AFn := ⟨20, [.t 6, .t 7], c116_15⟩
set_option maxRecDepth 100000 in
theorem c116_ok : compF Tryz.prog Tryz.f116 = some c116 := by kernel_rfl
theorem a116 {args : List AV} {σ : ASt} {R : AV → ASt → Prop} (hl : args.length ≤ 20) (h : c116_15.wp Tryz.prog (RetQ [.t 6, .t 7] R) (init args) σ) : ACalls Tryz.prog 116 args σ R := acalls_of Tryz.func116 c116_ok hl h

/-! 117: tabular/deci.Pow -/
def c117_0 : ACode := .ops [
    ⟨(some 4), none, .q (.mv (.v (.int .i64 0))), []⟩,
    ⟨(some 5), none, .q (.mv (.v (.bool false))), []⟩]
def c117_1 : ACode := .ops [
    ⟨(some 9), none, .q (.mv (.t 1)), []⟩,
    ⟨(some 10), none, .q (.bin .lss (.t 9) (.v (.int .i64 (-1000)))), []⟩,
    ⟨(some 11), none, .q (.mv (.t 10)), []⟩,
    ⟨(some 12), (some (11, false)), .q (.mv (.t 1)), []⟩,
    ⟨(some 13), (some (11, false)), .q (.bin .gtr (.t 12) (.v (.int .i64 1000))), []⟩,
    ⟨(some 14), none, .q (.pick (.t 11) (.v (.bool true)) (.t 13)), []⟩]
def c117_2 : ACode := .ops [
    ⟨(some 4), none, .q (.mv (.v (.int .i64 0))), []⟩,
    ⟨(some 5), none, .q (.mv (.v (.bool false))), []⟩]
def c117_3 : ACode := .seq c117_2 .ret
def c117_4 : ACode := .cond (.t 14) c117_3 .skip
def c117_5 : ACode := .seq c117_1 c117_4
def c117_6 : ACode := .ops [
    ⟨(some 6), none, .q (.mv (.v (.int .i64 10000))), []⟩,
    ⟨(some 7), none, .q (.mv (.v (.bool true))), []⟩]
def c117_7 : ACode := .ops [
    ⟨(some 8), none, .q (.mv (.v (.int .i64 0))), []⟩]
def c117_8 : ACode := .ops [
    ⟨(some 15), none, .q (.mv (.t 8)), []⟩,
    ⟨(some 16), none, .q (.mv (.t 1)), []⟩,
    ⟨(some 17), none, .q (.mv (.t 1)), []⟩,
    ⟨(some 18), none, .q (.un .neg (.t 17)), []⟩,
    ⟨(some 19), none, .q (.mnx true (.t 16) (.t 18)), []⟩,
    ⟨(some 20), none, .q (.bin .lss (.t 15) (.t 19)), []⟩,
    ⟨(some 21), none, .q (.mv (.t 20)), []⟩,
    ⟨(some 22), (some (21, true)), .q (.mv (.t 7)), []⟩,
    ⟨(some 23), none, .q (.pick (.t 21) (.t 22) (.v (.bool false))), []⟩]
def c117_9 : ACode := .cond (.t 23) .skip (.exit 0)
def c117_10 : ACode := .seq c117_8 c117_9
def c117_11 : ACode := .ops [
    ⟨(some 27), none, .q (.mv (.t 6)), []⟩,
    ⟨(some 28), none, .q (.mv (.t 0)), []⟩,
    ⟨(some 29), none, .e (.call 95 [(.t 27), (.t 28)]), []⟩,
    ⟨(some 26), none, .q (.mv (.t 29)), []⟩,
    ⟨(some 30), none, .q (.ext 0 (.t 26)), []⟩,
    ⟨(some 31), none, .q (.ext 1 (.t 26)), []⟩,
    ⟨(some 6), none, .q (.mv (.t 30)), []⟩,
    ⟨(some 7), none, .q (.mv (.t 31)), []⟩]
def c117_12 : ACode := .block 1 c117_11
def c117_13 : ACode := .ops [
    ⟨(some 24), none, .q (.mv (.t 8)), []⟩,
    ⟨(some 25), none, .q (.bin .add (.t 24) (.v (.int .i64 1))), []⟩,
    ⟨(some 8), none, .q (.mv (.t 25)), []⟩]
def c117_14 : ACode := .seq c117_12 c117_13
def c117_15 : ACode := .seq c117_10 c117_14
def c117_16 : ACode := .loop c117_15
def c117_17 : ACode := .block 0 c117_16
def c117_18 : ACode := .seq c117_7 c117_17
def c117_19 : ACode := .ops [
    ⟨(some 32), none, .q (.mv (.t 7)), []⟩,
    ⟨(some 33), none, .q (.mv (.t 32)), []⟩,
    ⟨(some 34), (some (33, true)), .q (.mv (.t 1)), []⟩,
    ⟨(some 35), (some (33, true)), .q (.bin .lss (.t 34) (.v (.int .i64 0))), []⟩,
    ⟨(some 36), none, .q (.pick (.t 33) (.t 35) (.v (.bool false))), []⟩]
def c117_20 : ACode := .ops [
    ⟨(some 37), none, .q (.mv (.t 6)), []⟩,
    ⟨(some 38), none, .e (.call 96 [(.v (.int .i64 10000)), (.t 37)]), []⟩,
    ⟨(some 39), none, .q (.ext 0 (.t 38)), []⟩,
    ⟨(some 40), none, .q (.ext 1 (.t 38)), []⟩,
    ⟨(some 4), none, .q (.mv (.t 39)), []⟩,
    ⟨(some 5), none, .q (.mv (.t 40)), []⟩]
def c117_21 : ACode := .seq c117_20 .ret
def c117_22 : ACode := .cond (.t 36) c117_21 .skip
def c117_23 : ACode := .seq c117_19 c117_22
def c117_24 : ACode := .ops [
    ⟨(some 41), none, .q (.mv (.t 6)), []⟩,
    ⟨(some 42), none, .q (.mv (.t 7)), []⟩,
    ⟨(some 4), none, .q (.mv (.t 41)), []⟩,
    ⟨(some 5), none, .q (.mv (.t 42)), []⟩]
def c117_25 : ACode := .seq c117_24 .ret
def c117_26 : ACode := .seq c117_23 c117_25
def c117_27 : ACode := .seq c117_18 c117_26
def c117_28 : ACode := .seq c117_6 c117_27
def c117_29 : ACode := .seq c117_5 c117_28
def c117_30 : ACode := .seq c117_0 c117_29
@[go_sem] theorem c117_0_wp : type_of% (wp_of c117_0.eq_1) := wp_of c117_0.eq_1
@[go_sem] theorem c117_1_wp : type_of% (wp_of c117_1.eq_1) := wp_of c117_1.eq_1
@[go_sem] theorem c117_2_wp : type_of% (wp_of c117_2.eq_1) := wp_of c117_2.eq_1
@[go_sem] theorem c117_3_wp : type_of% (wp_of c117_3.eq_1) := wp_of c117_3.eq_1
@[go_sem] theorem c117_4_wp : type_of% (wp_of c117_4.eq_1) := wp_of c117_4.eq_1
@[go_sem] theorem c117_5_wp : type_of% (wp_of c117_5.eq_1) := wp_of c117_5.eq_1
@[go_sem] theorem c117_6_wp : type_of% (wp_of c117_6.eq_1) := wp_of c117_6.eq_1
@[go_sem] theorem c117_7_wp : type_of% (wp_of c117_7.eq_1) := wp_of c117_7.eq_1
@[go_sem] theorem c117_8_wp : type_of% (wp_of c117_8.eq_1) := wp_of c117_8.eq_1
@[go_sem] theorem c117_9_wp : type_of% (wp_of c117_9.eq_1) := wp_of c117_9.eq_1
@[go_sem] theorem c117_10_wp : type_of% (wp_of c117_10.eq_1) := wp_of c117_10.eq_1
@[go_sem] theorem c117_11_wp : type_of% (wp_of c117_11.eq_1) := wp_of c117_11.eq_1
@[go_sem] theorem c117_12_wp : type_of% (wp_of c117_12.eq_1) := wp_of c117_12.eq_1
@[go_sem] theorem c117_13_wp : type_of% (wp_of c117_13.eq_1) := wp_of c117_13.eq_1
@[go_sem] theorem c117_14_wp : type_of% (wp_of c117_14.eq_1) := wp_of c117_14.eq_1
@[go_sem] theorem c117_15_wp : type_of% (wp_of c117_15.eq_1) := wp_of c117_15.eq_1
@[go_sem] theorem c117_16_wp : type_of% (wp_of c117_16.eq_1) := wp_of c117_16.eq_1
@[go_sem] theorem c117_17_wp : type_of% (wp_of c117_17.eq_1) := wp_of c117_17.eq_1
@[go_sem] theorem c117_18_wp : type_of% (wp_of c117_18.eq_1) := wp_of c117_18.eq_1
@[go_sem] theorem c117_19_wp : type_of% (wp_of c117_19.eq_1) := wp_of c117_19.eq_1
@[go_sem] theorem c117_20_wp : type_of% (wp_of c117_20.eq_1) := wp_of c117_20.eq_1
@[go_sem] theorem c117_21_wp : type_of% (wp_of c117_21.eq_1) := wp_of c117_21.eq_1
@[go_sem] theorem c117_22_wp : type_of% (wp_of c117_22.eq_1) := wp_of c117_22.eq_1
@[go_sem] theorem c117_23_wp : type_of% (wp_of c117_23.eq_1) := wp_of c117_23.eq_1
@[go_sem] theorem c117_24_wp : type_of% (wp_of c117_24.eq_1) := wp_of c117_24.eq_1
@[go_sem] theorem c117_25_wp : type_of% (wp_of c117_25.eq_1) := wp_of c117_25.eq_1
@[go_sem] theorem c117_26_wp : type_of% (wp_of c117_26.eq_1) := wp_of c117_26.eq_1
@[go_sem] theorem c117_27_wp : type_of% (wp_of c117_27.eq_1) := wp_of c117_27.eq_1
@[go_sem] theorem c117_28_wp : type_of% (wp_of c117_28.eq_1) := wp_of c117_28.eq_1
@[go_sem] theorem c117_29_wp : type_of% (wp_of c117_29.eq_1) := wp_of c117_29.eq_1
@[go_sem] theorem c117_30_wp : type_of% (wp_of c117_30.eq_1) := wp_of c117_30.eq_1
def c117 : AFn := ⟨43, [.t 4, .t 5], c117_30⟩
set_option maxRecDepth 100000 in
theorem c117_ok : compF Tryz.prog Tryz.f117 = some c117 := by kernel_rfl
theorem a117 {args : List AV} {σ : ASt} {R : AV → ASt → Prop} (hl : args.length ≤ 43) (h : c117_30.wp Tryz.prog (RetQ [.t 4, .t 5] R) (init args) σ) : ACalls Tryz.prog 117 args σ R := acalls_of Tryz.func117 c117_ok hl h

/-! 119: tabular/deci.Ceil -/
def c119_0 : ACode := .ops [
    ⟨(some 4), none, .q (.mv (.v (.int .i64 0))), []⟩,
    ⟨(some 5), none, .q (.mv (.v (.bool false))), []⟩]
def c119_1 : ACode := .ops [
    ⟨(some 9), none, .q (.mv (.t 0)), []⟩,
    ⟨(some 10), none, .q (.un .neg (.t 9)), []⟩,
    ⟨(some 11), none, .q (.mv (.t 1)), []⟩,
    ⟨(some 12), none, .e (.call 44 [(.t 10), (.t 11)]), []⟩,
    ⟨(some 8), none, .q (.mv (.t 12)), []⟩,
    ⟨(some 13), none, .q (.ext 0 (.t 8)), []⟩,
    ⟨(some 14), none, .q (.ext 1 (.t 8)), []⟩,
    ⟨(some 6), none, .q (.mv (.t 13)), []⟩,
    ⟨(some 7), none, .q (.mv (.t 14)), []⟩]
def c119_2 : ACode := .ops [
    ⟨(some 15), none, .q (.mv (.t 6)), []⟩,
    ⟨(some 16), none, .q (.un .neg (.t 15)), []⟩,
    ⟨(some 17), none, .q (.mv (.t 7)), []⟩,
    ⟨(some 4), none, .q (.mv (.t 16)), []⟩,
    ⟨(some 5), none, .q (.mv (.t 17)), []⟩]
def c119_3 : ACode := .seq c119_2 .ret
def c119_4 : ACode := .seq c119_1 c119_3
def c119_5 : ACode := .seq c119_0 c119_4
@[go_sem] theorem c119_0_wp : type_of% (wp_of c119_0.eq_1) := wp_of c119_0.eq_1
@[go_sem] theorem c119_1_wp : type_of% (wp_of c119_1.eq_1) := wp_of c119_1.eq_1
@[go_sem] theorem c119_2_wp : type_of% (wp_of c119_2.eq_1) := wp_of c119_2.eq_1
@[go_sem] theorem c119_3_wp : type_of% (wp_of c119_3.eq_1) := wp_of c119_3.eq_1
@[go_sem] theorem c119_4_wp : type_of% (wp_of c119_4.eq_1) := wp_of c119_4.eq_1
@[go_sem] theorem c119_5_wp : type_of% (wp_of c119_5.eq_1) := wp_of c119_5.eq_1
def c119 : AFn := ⟨18, [.t 4, .t 5], c119_5⟩
set_option maxRecDepth 100000 in
theorem c119_ok : compF Tryz.prog Tryz.f119 = some c119 := by kernel_rfl
theorem a119 {args : List AV} {σ : ASt} {R : AV → ASt → Prop} (hl : args.length ≤ 18) (h : c119_5.wp Tryz.prog (RetQ [.t 4, .t 5] R) (init args) σ) : ACalls Tryz.prog 119 args σ R := acalls_of Tryz.func119 c119_ok hl h

/-! 121: (tabular/deci.Dec).IsInt -/
def c121_0 : ACode := .ops [
    ⟨(some 2), none, .q (.mv (.v (.bool false))), []⟩]
def c121_1 : ACode := .ops [
    ⟨(some 3), none, .q (.mv (.t 0)), []⟩,
    ⟨(some 4), none, .q (.bin .rem (.t 3) (.v (.int .i64 10000))), []⟩,
    ⟨(some 5), none, .q (.bin .eql (.t 4) (.v (.int .i64 0))), []⟩,
    ⟨(some 2), none, .q (.mv (.t 5)), []⟩]
def c121_2 : ACode := .seq c121_1 .ret
def c121_3 : ACode := .seq c121_0 c121_2
@[go_sem] theorem c121_0_wp : type_of% (wp_of c121_0.eq_1) := wp_of c121_0.eq_1
@[go_sem] theorem c121_1_wp : type_of% (wp_of c121_1.eq_1) := wp_of c121_1.eq_1
@[go_sem] theorem c121_2_wp : type_of% (wp_of c121_2.eq_1) := wp_of c121_2.eq_1
@[go_sem] theorem c121_3_wp : type_of% (wp_of c121_3.eq_1) := wp_of c121_3.eq_1
def c121 : AFn := ⟨6, [.t 2], c121_3⟩
set_option maxRecDepth 100000 in
theorem c121_ok : compF Tryz.prog Tryz.f121 = some c121 := by kernel_rfl
theorem a121 {args : List AV} {σ : ASt} {R : AV → ASt → Prop} (hl : args.length ≤ 6) (h : c121_3.wp Tryz.prog (RetQ [.t 2] R) (init args) σ) : ACalls Tryz.prog 121 args σ R := acalls_of Tryz.func121 c121_ok hl h

/-! 124: tabular/deci.Good -/
def c124_0 : ACode := .ops [
    ⟨(some 2), none, .q (.mv (.v (.bool false))), []⟩]
def c124_1 : ACode := .ops [
    ⟨(some 3), none, .q (.mv (.t 0)), []⟩,
    ⟨(some 4), none, .q (.bin .geq (.t 3) (.v (.int .i64 (-999999999999999999)))), []⟩,
    ⟨(some 5), none, .q (.mv (.t 4)), []⟩,
    ⟨(some 6), (some (5, true)), .q (.mv (.t 0)), []⟩,
    ⟨(some 7), (some (5, true)), .q (.bin .leq (.t 6) (.v (.int .i64 999999999999999999))), []⟩,
    ⟨(some 8), none, .q (.pick (.t 5) (.t 7) (.v (.bool false))), []⟩,
    ⟨(some 2), none, .q (.mv (.t 8)), []⟩]
def c124_2 : ACode := .seq c124_1 .ret
def c124_3 : ACode := .seq c124_0 c124_2
@[go_sem] theorem c124_0_wp : type_of% (wp_of c124_0.eq_1) := wp_of c124_0.eq_1
@[go_sem] theorem c124_1_wp : type_of% (wp_of c124_1.eq_1) := wp_of c124_1.eq_1
@[go_sem] theorem c124_2_wp : type_of% (wp_of c124_2.eq_1) := wp_of c124_2.eq_1
@[go_sem] theorem c124_3_wp : type_of% (wp_of c124_3.eq_1) := wp_of c124_3.eq_1
def c124 : AFn := ⟨9, [.t 2], c124_3⟩
set_option maxRecDepth 100000 in
theorem c124_ok : compF Tryz.prog Tryz.f124 = some c124 := by kernel_rfl
theorem a124 {args : List AV} {σ : ASt} {R : AV → ASt → Prop} (hl : args.length ≤ 9) (h : c124_3.wp Tryz.prog (RetQ [.t 2] R) (init args) σ) : ACalls Tryz.prog 124 args σ R := acalls_of Tryz.func124 c124_ok hl h

/-! 142: tabular/deci.quot -/
def c142_0 : ACode := .ops [
    ⟨(some 6), none, .q (.mv (.v (.int .u64 0))), []⟩,
    ⟨(some 7), none, .q (.mv (.v (.bool false))), []⟩]
def c142_1 : ACode := .ops [
    ⟨(some 10), none, .q (.mv (.t 0)), []⟩,
    ⟨(some 11), none, .q (.mv (.t 2)), []⟩,
    ⟨(some 12), none, .q (.bin .geq (.t 10) (.t 11)), []⟩]
def c142_2 : ACode := .ops [
    ⟨(some 6), none, .q (.mv (.v (.int .u64 0))), []⟩,
    ⟨(some 7), none, .q (.mv (.v (.bool false))), []⟩]
def c142_3 : ACode := .seq c142_2 .ret
def c142_4 : ACode := .cond (.t 12) c142_3 .skip
def c142_5 : ACode := .seq c142_1 c142_4
def c142_6 : ACode := .ops [
    ⟨(some 14), none, .q (.mv (.t 0)), []⟩,
    ⟨(some 15), none, .q (.mv (.t 1)), []⟩,
    ⟨(some 16), none, .q (.mv (.t 2)), []⟩,
    ⟨(some 17), none, .e (.call 152 [(.t 14), (.t 15), (.t 16)]), []⟩,
    ⟨(some 13), none, .q (.mv (.t 17)), []⟩,
    ⟨(some 18), none, .q (.ext 0 (.t 13)), []⟩,
    ⟨(some 19), none, .q (.ext 1 (.t 13)), []⟩,
    ⟨(some 8), none, .q (.mv (.t 18)), []⟩,
    ⟨(some 9), none, .q (.mv (.t 19)), []⟩]
def c142_7 : ACode := .ops [
    ⟨(some 20), none, .q (.mv (.t 9)), []⟩,
    ⟨(some 21), none, .q (.mv (.t 2)), []⟩,
    ⟨(some 22), none, .q (.mv (.t 9)), []⟩,
    ⟨(some 23), none, .q (.bin .sub (.t 21) (.t 22)), []⟩,
    ⟨(some 24), none, .q (.bin .geq (.t 20) (.t 23)), []⟩]
def c142_8 : ACode := .ops [
    ⟨(some 25), none, .q (.mv (.t 8)), []⟩,
    ⟨(some 26), none, .q (.bin .add (.t 25) (.v (.int .u64 1))), []⟩,
    ⟨(some 8), none, .q (.mv (.t 26)), []⟩]
def c142_9 : ACode := .cond (.t 24) c142_8 .skip
def c142_10 : ACode := .seq c142_7 c142_9
def c142_11 : ACode := .ops [
    ⟨(some 27), none, .q (.mv (.t 8)), []⟩,
    ⟨(some 28), none, .q (.mv (.t 8)), []⟩,
    ⟨(some 29), none, .q (.bin .leq (.t 28) (.v (.int .u64 999999999999999999))), []⟩,
    ⟨(some 6), none, .q (.mv (.t 27)), []⟩,
    ⟨(some 7), none, .q (.mv (.t 29)), []⟩]
def c142_12 : ACode := .seq c142_11 .ret
def c142_13 : ACode := .seq c142_10 c142_12
def c142_14 : ACode := .seq c142_6 c142_13
def c142_15 : ACode := .seq c142_5 c142_14
def c142_16 : ACode := .seq c142_0 c142_15
@[go_sem] theorem c142_0_wp : type_of% (wp_of c142_0.eq_1) := wp_of c142_0.eq_1
@[go_sem] theorem c142_1_wp : type_of% (wp_of c142_1.eq_1) := wp_of c142_1.eq_1
@[go_sem] theorem c142_2_wp : type_of% (wp_of c142_2.eq_1) := wp_of c142_2.eq_1
@[go_sem] theorem c142_3_wp : type_of% (wp_of c142_3.eq_1) := wp_of c142_3.eq_1
@[go_sem] theorem c142_4_wp : type_of% (wp_of c142_4.eq_1) := wp_of c142_4.eq_1
@[go_sem] theorem c142_5_wp : type_of% (wp_of c142_5.eq_1) := wp_of c142_5.eq_1
@[go_sem] theorem c142_6_wp : type_of% (wp_of c142_6.eq_1) := wp_of c142_6.eq_1
@[go_sem] theorem c142_7_wp : type_of% (wp_of c142_7.eq_1) := wp_of c142_7.eq_1
@[go_sem] theorem c142_8_wp : type_of% (wp_of c142_8.eq_1) := wp_of c142_8.eq_1
@[go_sem] theorem c142_9_wp : type_of% (wp_of c142_9.eq_1) := wp_of c142_9.eq_1
@[go_sem] theorem c142_10_wp : type_of% (wp_of c142_10.eq_1) := wp_of c142_10.eq_1
@[go_sem] theorem c142_11_wp : type_of% (wp_of c142_11.eq_1) := wp_of c142_11.eq_1
@[go_sem] theorem c142_12_wp : type_of% (wp_of c142_12.eq_1) := wp_of c142_12.eq_1
@[go_sem] theorem c142_13_wp : type_of% (wp_of c142_13.eq_1) := wp_of c142_13.eq_1
@[go_sem] theorem c142_14_wp : type_of% (wp_of c142_14.eq_1) := wp_of c142_14.eq_1
@[go_sem] theorem c142_15_wp : type_of% (wp_of c142_15.eq_1) := wp_of c142_15.eq_1
@[go_sem] theorem c142_16_wp : type_of% (wp_of c142_16.eq_1) := wp_of c142_16.eq_1
def c142 : AFn := ⟨30, [.t 6, .t 7], c142_16⟩
set_option maxRecDepth 100000 in
theorem c142_ok : compF Tryz.prog Tryz.f142 = some c142 := by kernel_rfl
theorem a142 {args : List AV} {σ : ASt} {R : AV → ASt → Prop} (hl : args.length ≤ 30) (h : c142_16.wp Tryz.prog (RetQ [.t 6, .t 7] R) (init args) σ) : ACalls Tryz.prog 142 args σ R := acalls_of Tryz.func142 c142_ok hl h

/-! 144: strings.Cut -/
def c144_0 : ACode := .ops [
    ⟨(some 4), none, .q (.mv (.v (.str []))), []⟩,
    ⟨(some 5), none, .q (.mv (.v (.str []))), []⟩,
    ⟨(some 6), none, .q (.mv (.v (.bool false))), []⟩]
def c144_1 : ACode := .ops [
    ⟨(some 7), none, .q (.mv (.t 0)), []⟩,
    ⟨(some 8), none, .q (.mv (.t 1)), []⟩,
    ⟨(some 9), none, .e (.call 153 [(.t 7), (.t 8)]), []⟩,
    ⟨(some 10), none, .q (.ext 0 (.t 9)), []⟩,
    ⟨(some 11), none, .q (.ext 1 (.t 9)), []⟩,
    ⟨(some 12), none, .q (.ext 2 (.t 9)), []⟩,
    ⟨(some 4), none, .q (.mv (.t 10)), []⟩,
    ⟨(some 5), none, .q (.mv (.t 11)), []⟩,
    ⟨(some 6), none, .q (.mv (.t 12)), []⟩]
def c144_2 : ACode := .seq c144_1 .ret
def c144_3 : ACode := .seq c144_0 c144_2
@[go_sem] theorem c144_0_wp : type_of% (wp_of c144_0.eq_1) := wp_of c144_0.eq_1
@[go_sem] theorem c144_1_wp : type_of% (wp_of c144_1.eq_1) := wp_of c144_1.eq_1
@[go_sem] theorem c144_2_wp : type_of% (wp_of c144_2.eq_1) := wp_of c144_2.eq_1
@[go_sem] theorem c144_3_wp : type_of% (wp_of c144_3.eq_1) := wp_of c144_3.eq_1
def c144 : AFn := ⟨13, [.t 4, .t 5, .t 6], c144_3⟩
set_option maxRecDepth 100000 in
theorem c144_ok : compF Tryz.prog Tryz.f144 = some c144 := by kernel_rfl
theorem a144 {args : List AV} {σ : ASt} {R : AV → ASt → Prop} (hl : args.length ≤ 13) (h : c144_3.wp Tryz.prog (RetQ [.t 4, .t 5, .t 6] R) (init args) σ) : ACalls Tryz.prog 144 args σ R := acalls_of Tryz.func144 c144_ok hl h

/-! 146: strconv.FormatUint -/
def c146_0 : ACode := .ops [
    ⟨(some 4), none, .q (.mv (.v (.str []))), []⟩]
def c146_1 : ACode := .ops [
    ⟨(some 5), none, .q (.mv (.t 0)), []⟩,
    ⟨(some 6), none, .q (.mv (.t 1)), []⟩,
    ⟨(some 7), none, .e (.call 161 [(.t 5), (.t 6)]), []⟩,
    ⟨(some 4), none, .q (.mv (.t 7)), []⟩]
def c146_2 : ACode := .seq c146_1 .ret
def c146_3 : ACode := .seq c146_0 c146_2
@[go_sem] theorem c146_0_wp : type_of% (wp_of c146_0.eq_1) := wp_of c146_0.eq_1
@[go_sem] theorem c146_1_wp : type_of% (wp_of c146_1.eq_1) := wp_of c146_1.eq_1
@[go_sem] theorem c146_2_wp : type_of% (wp_of c146_2.eq_1) := wp_of c146_2.eq_1
@[go_sem] theorem c146_3_wp : type_of% (wp_of c146_3.eq_1) := wp_of c146_3.eq_1
def c146 : AFn := ⟨8, [.t 4], c146_3⟩
set_option maxRecDepth 100000 in
theorem c146_ok : compF Tryz.prog Tryz.f146 = some c146 := by kernel_rfl
theorem a146 {args : List AV} {σ : ASt} {R : AV → ASt → Prop} (hl : args.length ≤ 8) (h : c146_3.wp Tryz.prog (RetQ [.t 4] R) (init args) σ) : ACalls Tryz.prog 146 args σ R := acalls_of Tryz.func146 c146_ok hl h

/-! 152: math/bits.Div64 -/
def c152_0 : ACode := .ops [
    ⟨(some 6), none, .q (.mv (.v (.int .u64 0))), []⟩,
    ⟨(some 7), none, .q (.mv (.v (.int .u64 0))), []⟩]
def c152_1 : ACode := .ops [
    ⟨(some 19), none, .q (.mv (.t 2)), []⟩,
    ⟨(some 20), none, .q (.bin .eql (.t 19) (.v (.int .u64 0))), []⟩]
def c152_2 : ACode := .ops [
    ⟨(some 21), none, .q (.ld none (.v (.ptr 2 0))), []⟩,
    ⟨none, none, .e (.dead), []⟩]
def c152_3 : ACode := .cond (.t 20) c152_2 .skip
def c152_4 : ACode := .seq c152_1 c152_3
def c152_5 : ACode := .ops [
    ⟨(some 22), none, .q (.mv (.t 2)), []⟩,
    ⟨(some 23), none, .q (.mv (.t 0)), []⟩,
    ⟨(some 24), none, .q (.bin .leq (.t 22) (.t 23)), []⟩]
def c152_6 : ACode := .ops [
    ⟨(some 25), none, .q (.ld none (.v (.ptr 3 0))), []⟩,
    ⟨none, none, .e (.dead), []⟩]
def c152_7 : ACode := .cond (.t 24) c152_6 .skip
def c152_8 : ACode := .seq c152_5 c152_7
def c152_9 : ACode := .ops [
    ⟨(some 26), none, .q (.mv (.t 0)), []⟩,
    ⟨(some 27), none, .q (.bin .eql (.t 26) (.v (.int .u64 0))), []⟩]
def c152_10 : ACode := .ops [
    ⟨(some 28), none, .q (.mv (.t 1)), []⟩,
    ⟨(some 29), none, .q (.mv (.t 2)), []⟩,
    ⟨(some 30), none, .q (.bin .quo (.t 28) (.t 29)), []⟩,
    ⟨(some 31), none, .q (.mv (.t 1)), []⟩,
    ⟨(some 32), none, .q (.mv (.t 2)), []⟩,
    ⟨(some 33), none, .q (.bin .rem (.t 31) (.t 32)), []⟩,
    ⟨(some 6), none, .q (.mv (.t 30)), []⟩,
    ⟨(some 7), none, .q (.mv (.t 33)), []⟩]
def c152_11 : ACode := .seq c152_10 .ret
def c152_12 : ACode := .cond (.t 27) c152_11 .skip
def c152_13 : ACode := .seq c152_9 c152_12
def c152_14 : ACode := .ops [
    ⟨(some 34), none, .q (.mv (.t 2)), []⟩,
    ⟨(some 35), none, .e (.call 165 [(.t 34)]), []⟩,
    ⟨(some 36), none, .q (.conv .u64 (.t 35)), []⟩,
    ⟨(some 8), none, .q (.mv (.t 36)), []⟩]
def c152_15 : ACode := .ops [
    ⟨(some 37), none, .q (.mv (.t 2)), []⟩,
    ⟨(some 38), none, .q (.mv (.t 8)), []⟩,
    ⟨(some 39), none, .q (.bin .shl (.t 37) (.t 38)), []⟩,
    ⟨(some 2), none, .q (.mv (.t 39)), []⟩]
def c152_16 : ACode := .ops [
    ⟨(some 40), none, .q (.mv (.t 2)), []⟩,
    ⟨(some 41), none, .q (.bin .shr (.t 40) (.v (.int .u64 32))), []⟩,
    ⟨(some 9), none, .q (.mv (.t 41)), []⟩]
def c152_17 : ACode := .ops [
    ⟨(some 42), none, .q (.mv (.t 2)), []⟩,
    ⟨(some 43), none, .q (.bin .and (.t 42) (.v (.int .u64 4294967295))), []⟩,
    ⟨(some 10), none, .q (.mv (.t 43)), []⟩]
def c152_18 : ACode := .ops [
    ⟨(some 44), none, .q (.mv (.t 0)), []⟩,
    ⟨(some 45), none, .q (.mv (.t 8)), []⟩,
    ⟨(some 46), none, .q (.bin .shl (.t 44) (.t 45)), []⟩,
    ⟨(some 47), none, .q (.mv (.t 1)), []⟩,
    ⟨(some 48), none, .q (.mv (.t 8)), []⟩,
    ⟨(some 49), none, .q (.bin .sub (.v (.int .u64 64)) (.t 48)), []⟩,
    ⟨(some 50), none, .q (.bin .shr (.t 47) (.t 49)), []⟩,
    ⟨(some 51), none, .q (.bin .or (.t 46) (.t 50)), []⟩,
    ⟨(some 11), none, .q (.mv (.t 51)), []⟩]
def c152_19 : ACode := .ops [
    ⟨(some 52), none, .q (.mv (.t 1)), []⟩,
    ⟨(some 53), none, .q (.mv (.t 8)), []⟩,
    ⟨(some 54), none, .q (.bin .shl (.t 52) (.t 53)), []⟩,
    ⟨(some 12), none, .q (.mv (.t 54)), []⟩]
def c152_20 : ACode := .ops [
    ⟨(some 55), none, .q (.mv (.t 12)), []⟩,
    ⟨(some 56), none, .q (.bin .shr (.t 55) (.v (.int .u64 32))), []⟩,
    ⟨(some 13), none, .q (.mv (.t 56)), []⟩]
def c152_21 : ACode := .ops [
    ⟨(some 57), none, .q (.mv (.t 12)), []⟩,
    ⟨(some 58), none, .q (.bin .and (.t 57) (.v (.int .u64 4294967295))), []⟩,
    ⟨(some 14), none, .q (.mv (.t 58)), []⟩]
def c152_22 : ACode := .ops [
    ⟨(some 59), none, .q (.mv (.t 11)), []⟩,
    ⟨(some 60), none, .q (.mv (.t 9)), []⟩,
    ⟨(some 61), none, .q (.bin .quo (.t 59) (.t 60)), []⟩,
    ⟨(some 15), none, .q (.mv (.t 61)), []⟩]
def c152_23 : ACode := .ops [
    ⟨(some 62), none, .q (.mv (.t 11)), []⟩,
    ⟨(some 63), none, .q (.mv (.t 15)), []⟩,
    ⟨(some 64), none, .q (.mv (.t 9)), []⟩,
    ⟨(some 65), none, .q (.bin .mul (.t 63) (.t 64)), []⟩,
    ⟨(some 66), none, .q (.bin .sub (.t 62) (.t 65)), []⟩,
    ⟨(some 16), none, .q (.mv (.t 66)), []⟩]
def c152_24 : ACode := .ops [
    ⟨(some 67), none, .q (.mv (.t 15)), []⟩,
    ⟨(some 68), none, .q (.bin .geq (.t 67) (.v (.int .u64 4294967296))), []⟩,
    ⟨(some 69), none, .q (.mv (.t 68)), []⟩,
    ⟨(some 70), (some (69, false)), .q (.mv (.t 15)), []⟩,
    ⟨(some 71), (some (69, false)), .q (.mv (.t 10)), []⟩,
    ⟨(some 72), (some (69, false)), .q (.bin .mul (.t 70) (.t 71)), []⟩,
    ⟨(some 73), (some (69, false)), .q (.mv (.t 16)), []⟩,
    ⟨(some 74), (some (69, false)), .q (.bin .mul (.v (.int .u64 4294967296)) (.t 73)), []⟩,
    ⟨(some 75), (some (69, false)), .q (.mv (.t 13)), []⟩,
    ⟨(some 76), (some (69, false)), .q (.bin .add (.t 74) (.t 75)), []⟩,
    ⟨(some 77), (some (69, false)), .q (.bin .gtr (.t 72) (.t 76)), []⟩,
    ⟨(some 78), none, .q (.pick (.t 69) (.v (.bool true)) (.t 77)), []⟩]
def c152_25 : ACode := .cond (.t 78) .skip (.exit 0)
def c152_26 : ACode := .seq c152_24 c152_25
def c152_27 : ACode := .ops [
    ⟨(some 79), none, .q (.mv (.t 15)), []⟩,
    ⟨(some 80), none, .q (.bin .sub (.t 79) (.v (.int .u64 1))), []⟩,
    ⟨(some 15), none, .q (.mv (.t 80)), []⟩]
def c152_28 : ACode := .ops [
    ⟨(some 81), none, .q (.mv (.t 16)), []⟩,
    ⟨(some 82), none, .q (.mv (.t 9)), []⟩,
    ⟨(some 83), none, .q (.bin .add (.t 81) (.t 82)), []⟩,
    ⟨(some 16), none, .q (.mv (.t 83)), []⟩]
def c152_29 : ACode := .ops [
    ⟨(some 84), none, .q (.mv (.t 16)), []⟩,
    ⟨(some 85), none, .q (.bin .geq (.t 84) (.v (.int .u64 4294967296))), []⟩]
def c152_30 : ACode := .cond (.t 85) (.exit 0) .skip
def c152_31 : ACode := .seq c152_29 c152_30
def c152_32 : ACode := .seq c152_28 c152_31
def c152_33 : ACode := .seq c152_27 c152_32
def c152_34 : ACode := .block 1 c152_33
def c152_35 : ACode := .seq c152_26 c152_34
def c152_36 : ACode := .loop c152_35
def c152_37 : ACode := .block 0 c152_36
def c152_38 : ACode := .ops [
    ⟨(some 86), none, .q (.mv (.t 11)), []⟩,
    ⟨(some 87), none, .q (.bin .mul (.t 86) (.v (.int .u64 4294967296))), []⟩,
    ⟨(some 88), none, .q (.mv (.t 13)), []⟩,
    ⟨(some 89), none, .q (.bin .add (.t 87) (.t 88)), []⟩,
    ⟨(some 90), none, .q (.mv (.t 15)), []⟩,
    ⟨(some 91), none, .q (.mv (.t 2)), []⟩,
    ⟨(some 92), none, .q (.bin .mul (.t 90) (.t 91)), []⟩,
    ⟨(some 93), none, .q (.bin .sub (.t 89) (.t 92)), []⟩,
    ⟨(some 17), none, .q (.mv (.t 93)), []⟩]
def c152_39 : ACode := .ops [
    ⟨(some 94), none, .q (.mv (.t 17)), []⟩,
    ⟨(some 95), none, .q (.mv (.t 9)), []⟩,
    ⟨(some 96), none, .q (.bin .quo (.t 94) (.t 95)), []⟩,
    ⟨(some 18), none, .q (.mv (.t 96)), []⟩]
def c152_40 : ACode := .ops [
    ⟨(some 97), none, .q (.mv (.t 17)), []⟩,
    ⟨(some 98), none, .q (.mv (.t 18)), []⟩,
    ⟨(some 99), none, .q (.mv (.t 9)), []⟩,
    ⟨(some 100), none, .q (.bin .mul (.t 98) (.t 99)), []⟩,
    ⟨(some 101), none, .q (.bin .sub (.t 97) (.t 100)), []⟩,
    ⟨(some 16), none, .q (.mv (.t 101)), []⟩]
def c152_41 : ACode := .ops [
    ⟨(some 102), none, .q (.mv (.t 18)), []⟩,
    ⟨(some 103), none, .q (.bin .geq (.t 102) (.v (.int .u64 4294967296))), []⟩,
    ⟨(some 104), none, .q (.mv (.t 103)), []⟩,
    ⟨(some 105), (some (104, false)), .q (.mv (.t 18)), []⟩,
    ⟨(some 106), (some (104, false)), .q (.mv (.t 10)), []⟩,
    ⟨(some 107), (some (104, false)), .q (.bin .mul (.t 105) (.t 106)), []⟩,
    ⟨(some 108), (some (104, false)), .q (.mv (.t 16)), []⟩,
    ⟨(some 109), (some (104, false)), .q (.bin .mul (.v (.int .u64 4294967296)) (.t 108)), []⟩,
    ⟨(some 110), (some (104, false)), .q (.mv (.t 14)), []⟩,
    ⟨(some 111), (some (104, false)), .q (.bin .add (.t 109) (.t 110)), []⟩,
    ⟨(some 112), (some (104, false)), .q (.bin .gtr (.t 107) (.t 111)), []⟩,
    ⟨(some 113), none, .q (.pick (.t 104) (.v (.bool true)) (.t 112)), []⟩]
def c152_42 : ACode := .cond (.t 113) .skip (.exit 2)
def c152_43 : ACode := .seq c152_41 c152_42
def c152_44 : ACode := .ops [
    ⟨(some 114), none, .q (.mv (.t 18)), []⟩,
    ⟨(some 115), none, .q (.bin .sub (.t 114) (.v (.int .u64 1))), []⟩,
    ⟨(some 18), none, .q (.mv (.t 115)), []⟩]
def c152_45 : ACode := .ops [
    ⟨(some 116), none, .q (.mv (.t 16)), []⟩,
    ⟨(some 117), none, .q (.mv (.t 9)), []⟩,
    ⟨(some 118), none, .q (.bin .add (.t 116) (.t 117)), []⟩,
    ⟨(some 16), none, .q (.mv (.t 118)), []⟩]
def c152_46 : ACode := .ops [
    ⟨(some 119), none, .q (.mv (.t 16)), []⟩,
    ⟨(some 120), none, .q (.bin .geq (.t 119) (.v (.int .u64 4294967296))), []⟩]
def c152_47 : ACode := .cond (.t 120) (.exit 2) .skip
def c152_48 : ACode := .seq c152_46 c152_47
def c152_49 : ACode := .seq c152_45 c152_48
def c152_50 : ACode := .seq c152_44 c152_49
def c152_51 : ACode := .block 3 c152_50
def c152_52 : ACode := .seq c152_43 c152_51
def c152_53 : ACode := .loop c152_52
def c152_54 : ACode := .block 2 c152_53
def c152_55 : ACode := .ops [
    ⟨(some 121), none, .q (.mv (.t 15)), []⟩,
    ⟨(some 122), none, .q (.bin .mul (.t 121) (.v (.int .u64 4294967296))), []⟩,
    ⟨(some 123), none, .q (.mv (.t 18)), []⟩,
    ⟨(some 124), none, .q (.bin .add (.t 122) (.t 123)), []⟩,
    ⟨(some 125), none, .q (.mv (.t 17)), []⟩,
    ⟨(some 126), none, .q (.bin .mul (.t 125) (.v (.int .u64 4294967296))), []⟩,
    ⟨(some 127), none, .q (.mv (.t 14)), []⟩,
    ⟨(some 128), none, .q (.bin .add (.t 126) (.t 127)), []⟩,
    ⟨(some 129), none, .q (.mv (.t 18)), []⟩,
    ⟨(some 130), none, .q (.mv (.t 2)), []⟩,
    ⟨(some 131), none, .q (.bin .mul (.t 129) (.t 130)), []⟩,
    ⟨(some 132), none, .q (.bin .sub (.t 128) (.t 131)), []⟩,
    ⟨(some 133), none, .q (.mv (.t 8)), []⟩,
    ⟨(some 134), none, .q (.bin .shr (.t 132) (.t 133)), []⟩,
    ⟨(some 6), none, .q (.mv (.t 124)), []⟩,
    ⟨(some 7), none, .q (.mv (.t 134)), []⟩]
def c152_56 : ACode := .seq c152_55 .ret
def c152_57 : ACode := .seq c152_54 c152_56
def c152_58 : ACode := .seq c152_40 c152_57
def c152_59 : ACode := .seq c152_39 c152_58
def c152_60 : ACode := .seq c152_38 c152_59
def c152_61 : ACode := .seq c152_37 c152_60
def c152_62 : ACode := .seq c152_23 c152_61
def c152_63 : ACode := .seq c152_22 c152_62
def c152_64 : ACode := .seq c152_21 c152_63
def c152_65 : ACode := .seq c152_20 c152_64
def c152_66 : ACode := .seq c152_19 c152_65
def c152_67 : ACode := .seq c152_18 c152_66
def c152_68 : ACode := .seq c152_17 c152_67
def c152_69 : ACode := .seq c152_16 c152_68
def c152_70 : ACode := .seq c152_15 c152_69
def c152_71 : ACode := .seq c152_14 c152_70
def c152_72 : ACode := .seq c152_13 c152_71
def c152_73 : ACode := .seq c152_8 c152_72
def c152_74 : ACode := .seq c152_4 c152_73
def c152_75 : ACode := .seq c152_0 c152_74
@[go_sem] theorem c152_0_wp : type_of% (wp_of c152_0.eq_1) := wp_of c152_0.eq_1
@[go_sem] theorem c152_1_wp : type_of% (wp_of c152_1.eq_1) := wp_of c152_1.eq_1
@[go_sem] theorem c152_2_wp : type_of% (wp_of c152_2.eq_1) := wp_of c152_2.eq_1
@[go_sem] theorem c152_3_wp : type_of% (wp_of c152_3.eq_1) := wp_of c152_3.eq_1
@[go_sem] theorem c152_4_wp : type_of% (wp_of c152_4.eq_1) := wp_of c152_4.eq_1
@[go_sem] theorem c152_5_wp : type_of% (wp_of c152_5.eq_1) := wp_of c152_5.eq_1
@[go_sem] theorem c152_6_wp : type_of% (wp_of c152_6.eq_1) := wp_of c152_6.eq_1
@[go_sem] theorem c152_7_wp : type_of% (wp_of c152_7.eq_1) := wp_of c152_7.eq_1
@[go_sem] theorem c152_8_wp : type_of% (wp_of c152_8.eq_1) := wp_of c152_8.eq_1
@[go_sem] theorem c152_9_wp : type_of% (wp_of c152_9.eq_1) := wp_of c152_9.eq_1
@[go_sem] theorem c152_10_wp : type_of% (wp_of c152_10.eq_1) := wp_of c152_10.eq_1
@[go_sem] theorem c152_11_wp : type_of% (wp_of c152_11.eq_1) := wp_of c152_11.eq_1
@[go_sem] theorem c152_12_wp : type_of% (wp_of c152_12.eq_1) := wp_of c152_12.eq_1
@[go_sem] theorem c152_13_wp : type_of% (wp_of c152_13.eq_1) := wp_of c152_13.eq_1
@[go_sem] theorem c152_14_wp : type_of% (wp_of c152_14.eq_1) := wp_of c152_14.eq_1
@[go_sem] theorem c152_15_wp : type_of% (wp_of c152_15.eq_1) := wp_of c152_15.eq_1
@[go_sem] theorem c152_16_wp : type_of% (wp_of c152_16.eq_1) := wp_of c152_16.eq_1
@[go_sem] theorem c152_17_wp : type_of% (wp_of c152_17.eq_1) := wp_of c152_17.eq_1
@[go_sem] theorem c152_18_wp : type_of% (wp_of c152_18.eq_1) := wp_of c152_18.eq_1
@[go_sem] theorem c152_19_wp : type_of% (wp_of c152_19.eq_1) := wp_of c152_19.eq_1
@[go_sem] theorem c152_20_wp : type_of% (wp_of c152_20.eq_1) := wp_of c152_20.eq_1
@[go_sem] theorem c152_21_wp : type_of% (wp_of c152_21.eq_1) := wp_of c152_21.eq_1
@[go_sem] theorem c152_22_wp : type_of% (wp_of c152_22.eq_1) := wp_of c152_22.eq_1
@[go_sem] theorem c152_23_wp : type_of% (wp_of c152_23.eq_1) := wp_of c152_23.eq_1
@[go_sem] theorem c152_24_wp : type_of% (wp_of c152_24.eq_1) := wp_of c152_24.eq_1
@[go_sem] theorem c152_25_wp : type_of% (wp_of c152_25.eq_1) := wp_of c152_25.eq_1
@[go_sem] theorem c152_26_wp : type_of% (wp_of c152_26.eq_1) := wp_of c152_26.eq_1
@[go_sem] theorem c152_27_wp : type_of% (wp_of c152_27.eq_1) := wp_of c152_27.eq_1
@[go_sem] theorem c152_28_wp : type_of% (wp_of c152_28.eq_1) := wp_of c152_28.eq_1
@[go_sem] theorem c152_29_wp : type_of% (wp_of c152_29.eq_1) := wp_of c152_29.eq_1
@[go_sem] theorem c152_30_wp : type_of% (wp_of c152_30.eq_1) := wp_of c152_30.eq_1
@[go_sem] theorem c152_31_wp : type_of% (wp_of c152_31.eq_1) := wp_of c152_31.eq_1
@[go_sem] theorem c152_32_wp : type_of% (wp_of c152_32.eq_1) := wp_of c152_32.eq_1
@[go_sem] theorem c152_33_wp : type_of% (wp_of c152_33.eq_1) := wp_of c152_33.eq_1
@[go_sem] theorem c152_34_wp : type_of% (wp_of c152_34.eq_1) := wp_of c152_34.eq_1
@[go_sem] theorem c152_35_wp : type_of% (wp_of c152_35.eq_1) := wp_of c152_35.eq_1
@[go_sem] theorem c152_36_wp : type_of% (wp_of c152_36.eq_1) := wp_of c152_36.eq_1
@[go_sem] theorem c152_37_wp : type_of% (wp_of c152_37.eq_1) := wp_of c152_37.eq_1
@[go_sem] theorem c152_38_wp : type_of% (wp_of c152_38.eq_1) := wp_of c152_38.eq_1
@[go_sem] theorem c152_39_wp : type_of% (wp_of c152_39.eq_1) := wp_of c152_39.eq_1
@[go_sem] theorem c152_40_wp : type_of% (wp_of c152_40.eq_1) := wp_of c152_40.eq_1
@[go_sem] theorem c152_41_wp : type_of% (wp_of c152_41.eq_1) := wp_of c152_41.eq_1
@[go_sem] theorem c152_42_wp : type_of% (wp_of c152_42.eq_1) := wp_of c152_42.eq_1
@[go_sem] theorem c152_43_wp : type_of% (wp_of c152_43.eq_1) := wp_of c152_43.eq_1
@[go_sem] theorem c152_44_wp : type_of% (wp_of c152_44.eq_1) := wp_of c152_44.eq_1
@[go_sem] theorem c152_45_wp : type_of% (wp_of c152_45.eq_1) := wp_of c152_45.eq_1
@[go_sem] theorem c152_46_wp : type_of% (wp_of c152_46.eq_1) := wp_of c152_46.eq_1
@[go_sem] theorem c152_47_wp : type_of% (wp_of c152_47.eq_1) := wp_of c152_47.eq_1
@[go_sem] theorem c152_48_wp : type_of% (wp_of c152_48.eq_1) := wp_of c152_48.eq_1
@[go_sem] theorem c152_49_wp : type_of% (wp_of c152_49.eq_1) := wp_of c152_49.eq_1
@[go_sem] theorem c152_50_wp : type_of% (wp_of c152_50.eq_1) := wp_of c152_50.eq_1
@[go_sem] theorem c152_51_wp : type_of% (wp_of c152_51.eq_1) := wp_of c152_51.eq_1
@[go_sem] theorem c152_52_wp : type_of% (wp_of c152_52.eq_1) := wp_of c152_52.eq_1
@[go_sem] theorem c152_53_wp : type_of% (wp_of c152_53.eq_1) := wp_of c152_53.eq_1
@[go_sem] theorem c152_54_wp : type_of% (wp_of c152_54.eq_1) := wp_of c152_54.eq_1
@[go_sem] theorem c152_55_wp : type_of% (wp_of c152_55.eq_1) := wp_of c152_55.eq_1
@[go_sem] theorem c152_56_wp : type_of% (wp_of c152_56.eq_1) := wp_of c152_56.eq_1
@[go_sem] theorem c152_57_wp : type_of% (wp_of c152_57.eq_1) := wp_of c152_57.eq_1
@[go_sem] theorem c152_58_wp : type_of% (wp_of c152_58.eq_1) := wp_of c152_58.eq_1
@[go_sem] theorem c152_59_wp : type_of% (wp_of c152_59.eq_1) := wp_of c152_59.eq_1
@[go_sem] theorem c152_60_wp : type_of% (wp_of c152_60.eq_1) := wp_of c152_60.eq_1
@[go_sem] theorem c152_61_wp : type_of% (wp_of c152_61.eq_1) := wp_of c152_61.eq_1
@[go_sem] theorem c152_62_wp : type_of% (wp_of c152_62.eq_1) := wp_of c152_62.eq_1
@[go_sem] theorem c152_63_wp : type_of% (wp_of c152_63.eq_1) := wp_of c152_63.eq_1
@[go_sem] theorem c152_64_wp : type_of% (wp_of c152_64.eq_1) := wp_of c152_64.eq_1
@[go_sem] theorem c152_65_wp : type_of% (wp_of c152_65.eq_1) := wp_of c152_65.eq_1
@[go_sem] theorem c152_66_wp : type_of% (wp_of c152_66.eq_1) := wp_of c152_66.eq_1
@[go_sem] theorem c152_67_wp : type_of% (wp_of c152_67.eq_1) := wp_of c152_67.eq_1
@[go_sem] theorem c152_68_wp : type_of% (wp_of c152_68.eq_1) := wp_of c152_68.eq_1
@[go_sem] theorem c152_69_wp : type_of% (wp_of c152_69.eq_1) := wp_of c152_69.eq_1
@[go_sem] theorem c152_70_wp : type_of% (wp_of c152_70.eq_1) := wp_of c152_70.eq_1
@[go_sem] theorem c152_71_wp : type_of% (wp_of c152_71.eq_1) := wp_of c152_71.eq_1
@[go_sem] theorem c152_72_wp : type_of% (wp_of c152_72.eq_1) := wp_of c152_72.eq_1
@[go_sem] theorem c152_73_wp : type_of% (wp_of c152_73.eq_1) := wp_of c152_73.eq_1
@[go_sem] theorem c152_74_wp : type_of% (wp_of c152_74.eq_1) := wp_of c152_74.eq_1
@[go_sem] theorem c152_75_wp : type_of% (wp_of c152_75.eq_1) := wp_of c152_75.eq_1
def c152 : AFn := ⟨135, [.t 6, .t 7], c152_75⟩
set_option maxRecDepth 100000 in
theorem c152_ok : compF Tryz.prog Tryz.f152 = some c152 := by kernel_rfl
theorem a152 {args : List AV} {σ : ASt} {R : AV → ASt → Prop} (hl : args.length ≤ 135) (h : c152_75.wp Tryz.prog (RetQ [.t 6, .t 7] R) (init args) σ) : ACalls Tryz.prog 152 args σ R := acalls_of Tryz.func152 c152_ok hl h

/-! 153: internal/stringslite.Cut -/
def c153_0 : ACode := .ops [
    ⟨(some 4), none, .q (.mv (.v (.str []))), []⟩,
    ⟨(some 5), none, .q (.mv (.v (.str []))), []⟩,
    ⟨(some 6), none, .q (.mv (.v (.bool false))), []⟩]
def c153_1 : ACode := .ops [
    ⟨(some 8), none, .q (.mv (.t 0)), []⟩,
    ⟨(some 9), none, .q (.mv (.t 1)), []⟩,
    ⟨(some 10), none, .e (.call 166 [(.t 8), (.t 9)]), []⟩,
    ⟨(some 7), none, .q (.mv (.t 10)), []⟩]
def c153_2 : ACode := .ops [
    ⟨(some 11), none, .q (.mv (.t 7)), []⟩,
    ⟨(some 12), none, .q (.bin .geq (.t 11) (.v (.int .i64 0))), []⟩]
def c153_3 : ACode := .ops [
    ⟨(some 13), none, .q (.mv (.t 0)), []⟩,
    ⟨(some 14), none, .q (.mv (.t 7)), []⟩,
    ⟨(some 15), none, .q (.slto (true, 0) (.t 13) (.t 14)), []⟩,
    ⟨(some 16), none, .q (.mv (.t 0)), []⟩,
    ⟨(some 17), none, .q (.mv (.t 7)), []⟩,
    ⟨(some 18), none, .q (.mv (.t 1)), []⟩,
    ⟨(some 19), none, .q (.lenS (.t 18)), []⟩,
    ⟨(some 20), none, .q (.bin .add (.t 17) (.t 19)), []⟩,
    ⟨(some 21), none, .q (.slfrom (true, 0) (.t 16) (.t 20)), []⟩,
    ⟨(some 4), none, .q (.mv (.t 15)), []⟩,
    ⟨(some 5), none, .q (.mv (.t 21)), []⟩,
    ⟨(some 6), none, .q (.mv (.v (.bool true))), []⟩]
def c153_4 : ACode := .seq c153_3 .ret
def c153_5 : ACode := .cond (.t 12) c153_4 .skip
def c153_6 : ACode := .seq c153_2 c153_5
def c153_7 : ACode := .seq c153_1 c153_6
def c153_8 : ACode := .ops [
    ⟨(some 22), none, .q (.mv (.t 0)), []⟩,
    ⟨(some 4), none, .q (.mv (.t 22)), []⟩,
    ⟨(some 5), none, .q (.mv (.v (.str []))), []⟩,
    ⟨(some 6), none, .q (.mv (.v (.bool false))), []⟩]
def c153_9 : ACode := .seq c153_8 .ret
def c153_10 : ACode := .seq c153_7 c153_9
def c153_11 : ACode := .seq c153_0 c153_10
@[go_sem] theorem c153_0_wp : type_of% (wp_of c153_0.eq_1) := wp_of c153_0.eq_1
@[go_sem] theorem c153_1_wp : type_of% (wp_of c153_1.eq_1) := wp_of c153_1.eq_1
@[go_sem] theorem c153_2_wp : type_of% (wp_of c153_2.eq_1) := wp_of c153_2.eq_1
@[go_sem] theorem c153_3_wp : type_of% (wp_of c153_3.eq_1) := wp_of c153_3.eq_1
@[go_sem] theorem c153_4_wp : type_of% (wp_of c153_4.eq_1) := wp_of c153_4.eq_1
@[go_sem] theorem c153_5_wp : type_of% (wp_of c153_5.eq_1) := wp_of c153_5.eq_1
@[go_sem] theorem c153_6_wp : type_of% (wp_of c153_6.eq_1) := wp_of c153_6.eq_1
@[go_sem] theorem c153_7_wp : type_of% (wp_of c153_7.eq_1) := wp_of c153_7.eq_1
@[go_sem] theorem c153_8_wp : type_of% (wp_of c153_8.eq_1) := wp_of c153_8.eq_1
@[go_sem] theorem c153_9_wp : type_of% (wp_of c153_9.eq_1) := wp_of c153_9.eq_1
@[go_sem] theorem c153_10_wp : type_of% (wp_of c153_10.eq_1) := wp_of c153_10.eq_1
@[go_sem] theorem c153_11_wp : type_of% (wp_of c153_11.eq_1) := wp_of c153_11.eq_1
def c153 : AFn := ⟨23, [.t 4, .t 5, .t 6], c153_11⟩
set_option maxRecDepth 100000 in
theorem c153_ok : compF Tryz.prog Tryz.f153 = some c153 := by kernel_rfl
theorem a153 {args : List AV} {σ : ASt} {R : AV → ASt → Prop} (hl : args.length ≤ 23) (h : c153_11.wp Tryz.prog (RetQ [.t 4, .t 5, .t 6] R) (init args) σ) : ACalls Tryz.prog 153 args σ R := acalls_of Tryz.func153 c153_ok hl h

/-! 165: math/bits.LeadingZeros64 -/
def c165_0 : ACode := .ops [
    ⟨(some 2), none, .q (.mv (.v (.int .i64 0))), []⟩]
def c165_1 : ACode := .ops [
    ⟨(some 3), none, .q (.mv (.t 0)), []⟩,
    ⟨(some 4), none, .e (.call 174 [(.t 3)]), []⟩,
    ⟨(some 5), none, .q (.bin .sub (.v (.int .i64 64)) (.t 4)), []⟩,
    ⟨(some 2), none, .q (.mv (.t 5)), []⟩]
def c165_2 : ACode := .seq c165_1 .ret
def c165_3 : ACode := .seq c165_0 c165_2
@[go_sem] theorem c165_0_wp : type_of% (wp_of c165_0.eq_1) := wp_of c165_0.eq_1
@[go_sem] theorem c165_1_wp : type_of% (wp_of c165_1.eq_1) := wp_of c165_1.eq_1
@[go_sem] theorem c165_2_wp : type_of% (wp_of c165_2.eq_1) := wp_of c165_2.eq_1
@[go_sem] theorem c165_3_wp : type_of% (wp_of c165_3.eq_1) := wp_of c165_3.eq_1
def c165 : AFn := ⟨6, [.t 2], c165_3⟩
set_option maxRecDepth 100000 in
theorem c165_ok : compF Tryz.prog Tryz.f165 = some c165 := by kernel_rfl
theorem a165 {args : List AV} {σ : ASt} {R : AV → ASt → Prop} (hl : args.length ≤ 6) (h : c165_3.wp Tryz.prog (RetQ [.t 2] R) (init args) σ) : ACalls Tryz.prog 165 args σ R := acalls_of Tryz.func165 c165_ok hl h

end Go.A
