/- Part 11 of what ExprOne leans on: CodeEn En CodeEo Eo. -/
import Derived.Test.YtennoafgkkoeaaaGreatDoorProg
import Derived.KernelRfl
import Derived.Test.YtennoafgkkoeaaaGreatDoorZExprOnej
namespace Go.A
open Go.Proofs
/-! 73: tabular/expr.kids -/
def c73_0 : ACode := .ops [
    ⟨(some 2), none, .q (.mv (.v (.int .i64 0))), []⟩]
def c73_1 : ACode := .ops [
    ⟨(some 4), none, .q (.mv (.t 0)), []⟩,
    ⟨(some 5), none, .q (.bin .eql (.t 4) (.v (.int .i64 7))), []⟩,
    ⟨(some 6), none, .q (.mv (.t 5)), []⟩,
    ⟨(some 7), (some (6, false)), .q (.mv (.t 0)), []⟩,
    ⟨(some 8), (some (6, false)), .q (.bin .eql (.t 7) (.v (.int .i64 8))), []⟩,
    ⟨(some 9), none, .q (.pick (.t 6) (.v (.bool true)) (.t 8)), []⟩,
    ⟨(some 10), none, .q (.mv (.t 9)), []⟩,
    ⟨(some 11), (some (10, false)), .q (.mv (.t 0)), []⟩,
    ⟨(some 12), (some (10, false)), .q (.bin .eql (.t 11) (.v (.int .i64 9))), []⟩,
    ⟨(some 13), none, .q (.pick (.t 10) (.v (.bool true)) (.t 12)), []⟩,
    ⟨(some 3), none, .q (.mv (.t 13)), []⟩]
def c73_2 : ACode := .ops [
    ⟨(some 2), none, .q (.mv (.v (.int .i64 1))), []⟩]
def c73_3 : ACode := .seq c73_2 .ret
def c73_4 : ACode := .ops [
    ⟨(some 15), none, .q (.mv (.t 0)), []⟩,
    ⟨(some 16), none, .q (.bin .geq (.t 15) (.v (.int .i64 10))), []⟩,
    ⟨(some 17), none, .q (.mv (.t 16)), []⟩,
    ⟨(some 18), (some (17, true)), .q (.mv (.t 0)), []⟩,
    ⟨(some 19), (some (17, true)), .q (.bin .lss (.t 18) (.v (.int .i64 22))), []⟩,
    ⟨(some 20), none, .q (.pick (.t 17) (.t 19) (.v (.bool false))), []⟩,
    ⟨(some 14), none, .q (.mv (.t 20)), []⟩]
def c73_5 : ACode := .ops [
    ⟨(some 2), none, .q (.mv (.v (.int .i64 2))), []⟩]
def c73_6 : ACode := .seq c73_5 .ret
def c73_7 : ACode := .cond (.t 14) c73_6 .skip
def c73_8 : ACode := .seq c73_4 c73_7
def c73_9 : ACode := .cond (.t 3) c73_3 c73_8
def c73_10 : ACode := .seq c73_1 c73_9
def c73_11 : ACode := .block 0 c73_10
def c73_12 : ACode := .ops [
    ⟨(some 2), none, .q (.mv (.v (.int .i64 0))), []⟩]
def c73_13 : ACode := .seq c73_12 .ret
def c73_14 : ACode := .seq c73_11 c73_13
def c73_15 : ACode := .seq c73_0 c73_14
@[go_sem] theorem c73_0_wp : type_of% (wp_of c73_0.eq_1) := wp_of c73_0.eq_1
@[go_sem] theorem c73_1_wp : type_of% (wp_of c73_1.eq_1) := wp_of c73_1.eq_1
@[go_sem] theorem c73_2_wp : type_of% (wp_of c73_2.eq_1) := wp_of c73_2.eq_1
@[go_sem] theorem c73_3_wp : type_of% (wp_of c73_3.eq_1) := wp_of c73_3.eq_1
@[go_sem] theorem c73_4_wp : type_of% (wp_of c73_4.eq_1) := wp_of c73_4.eq_1
@[go_sem] theorem c73_5_wp : type_of% (wp_of c73_5.eq_1) := wp_of c73_5.eq_1
@[go_sem] theorem c73_6_wp : type_of% (wp_of c73_6.eq_1) := wp_of c73_6.eq_1
@[go_sem] theorem c73_7_wp : type_of% (wp_of c73_7.eq_1) := wp_of c73_7.eq_1
@[go_sem] theorem c73_8_wp : type_of% (wp_of c73_8.eq_1) := wp_of c73_8.eq_1
@[go_sem] theorem c73_9_wp : type_of% (wp_of c73_9.eq_1) := wp_of c73_9.eq_1
@[go_sem] theorem c73_10_wp : type_of% (wp_of c73_10.eq_1) := wp_of c73_10.eq_1
@[go_sem] theorem c73_11_wp : type_of% (wp_of c73_11.eq_1) := wp_of c73_11.eq_1
@[go_sem] theorem c73_12_wp : type_of% (wp_of c73_12.eq_1) := wp_of c73_12.eq_1
@[go_sem] theorem c73_13_wp : type_of% (wp_of c73_13.eq_1) := wp_of c73_13.eq_1
@[go_sem] theorem c73_14_wp : type_of% (wp_of c73_14.eq_1) := wp_of c73_14.eq_1
@[go_sem] theorem c73_15_wp : type_of% (wp_of c73_15.eq_1) := wp_of c73_15.eq_1
def c73 : AFn := ⟨21, [.t 2], c73_15⟩
set_option maxRecDepth 100000 in
theorem c73_ok : compF Tryz.prog Tryz.f73 = some c73 := by kernel_rfl
theorem a73 {args : List AV} {σ : ASt} {R : AV → ASt → Prop} (hl : args.length ≤ 21) (h : c73_15.wp Tryz.prog (RetQ [.t 2] R) (init args) σ) : ACalls Tryz.prog 73 args σ R := acalls_of Tryz.func73 c73_ok hl h
/-! 75: tabular/expr.value -/
def c75_0 : ACode := .ops [
    ⟨(some 1), none, .e (.box (.t 0)), []⟩,
    ⟨(some 2), none, .q (.mv (.v (.bool false))), []⟩]
def c75_1 : ACode := .ops [
    ⟨(some 3), none, .q (.fa 0 (.t 1)), []⟩,
    ⟨(some 4), none, .q (.ld none (.t 3)), []⟩]
def c75_2 : ACode := .ops [
    ⟨(some 6), none, .q (.bin .eql (.t 4) (.v (.int .i64 3))), []⟩,
    ⟨(some 5), none, .q (.mv (.t 6)), []⟩]
def c75_3 : ACode := .ops [
    ⟨(some 7), none, .q (.fa 1 (.t 1)), []⟩,
    ⟨(some 8), none, .q (.ld none (.t 7)), []⟩,
    ⟨(some 9), none, .q (.bin .eql (.t 8) (.v (.int .i64 0))), []⟩,
    ⟨(some 10), none, .q (.mv (.t 9)), []⟩,
    ⟨(some 11), (some (10, false)), .q (.fa 1 (.t 1)), []⟩,
    ⟨(some 12), (some (10, false)), .q (.ld none (.t 11)), []⟩,
    ⟨(some 13), (some (10, false)), .q (.bin .eql (.t 12) (.v (.int .i64 1))), []⟩,
    ⟨(some 14), none, .q (.pick (.t 10) (.v (.bool true)) (.t 13)), []⟩,
    ⟨(some 2), none, .q (.mv (.t 14)), []⟩]
def c75_4 : ACode := .seq c75_3 .ret
def c75_5 : ACode := .ops [
    ⟨(some 16), none, .q (.bin .eql (.t 4) (.v (.int .i64 4))), []⟩,
    ⟨(some 15), none, .q (.mv (.t 16)), []⟩]
def c75_6 : ACode := .ops [
    ⟨(some 17), none, .q (.fa 1 (.t 1)), []⟩,
    ⟨(some 18), none, .q (.ld none (.t 17)), []⟩,
    ⟨(some 19), none, .e (.call 92 [(.t 18)]), []⟩,
    ⟨(some 20), none, .q (.mv (.t 19)), []⟩,
    ⟨(some 21), (some (20, true)), .q (.ld (some 12) (.t 1)), []⟩,
    ⟨(some 22), (some (20, true)), .e (.call 25 [(.t 21)]), []⟩,
    ⟨(some 23), (some (20, true)), .q (.bin .neq (.t 22) (.v (.str []))), []⟩,
    ⟨(some 24), none, .q (.pick (.t 20) (.t 23) (.v (.bool false))), []⟩,
    ⟨(some 2), none, .q (.mv (.t 24)), []⟩]
def c75_7 : ACode := .seq c75_6 .ret
def c75_8 : ACode := .cond (.t 15) c75_7 .skip
def c75_9 : ACode := .seq c75_5 c75_8
def c75_10 : ACode := .cond (.t 5) c75_4 c75_9
def c75_11 : ACode := .seq c75_2 c75_10
def c75_12 : ACode := .block 0 c75_11
def c75_13 : ACode := .seq c75_1 c75_12
def c75_14 : ACode := .ops [
    ⟨(some 25), none, .q (.fa 1 (.t 1)), []⟩,
    ⟨(some 26), none, .q (.ld none (.t 25)), []⟩,
    ⟨(some 27), none, .q (.bin .geq (.t 26) (.v (.int .i64 0))), []⟩,
    ⟨(some 28), none, .q (.mv (.t 27)), []⟩,
    ⟨(some 29), (some (28, true)), .q (.fa 1 (.t 1)), []⟩,
    ⟨(some 30), (some (28, true)), .q (.ld none (.t 29)), []⟩,
    ⟨(some 31), (some (28, true)), .e (.call 93 [(.t 30)]), []⟩,
    ⟨(some 32), none, .q (.pick (.t 28) (.t 31) (.v (.bool false))), []⟩,
    ⟨(some 2), none, .q (.mv (.t 32)), []⟩]
def c75_15 : ACode := .seq c75_14 .ret
def c75_16 : ACode := .seq c75_13 c75_15
def c75_17 : ACode := .seq c75_0 c75_16
@[go_sem] theorem c75_0_wp : type_of% (wp_of c75_0.eq_1) := wp_of c75_0.eq_1
@[go_sem] theorem c75_1_wp : type_of% (wp_of c75_1.eq_1) := wp_of c75_1.eq_1
@[go_sem] theorem c75_2_wp : type_of% (wp_of c75_2.eq_1) := wp_of c75_2.eq_1
@[go_sem] theorem c75_3_wp : type_of% (wp_of c75_3.eq_1) := wp_of c75_3.eq_1
@[go_sem] theorem c75_4_wp : type_of% (wp_of c75_4.eq_1) := wp_of c75_4.eq_1
@[go_sem] theorem c75_5_wp : type_of% (wp_of c75_5.eq_1) := wp_of c75_5.eq_1
@[go_sem] theorem c75_6_wp : type_of% (wp_of c75_6.eq_1) := wp_of c75_6.eq_1
@[go_sem] theorem c75_7_wp : type_of% (wp_of c75_7.eq_1) := wp_of c75_7.eq_1
@[go_sem] theorem c75_8_wp : type_of% (wp_of c75_8.eq_1) := wp_of c75_8.eq_1
@[go_sem] theorem c75_9_wp : type_of% (wp_of c75_9.eq_1) := wp_of c75_9.eq_1
@[go_sem] theorem c75_10_wp : type_of% (wp_of c75_10.eq_1) := wp_of c75_10.eq_1
@[go_sem] theorem c75_11_wp : type_of% (wp_of c75_11.eq_1) := wp_of c75_11.eq_1
@[go_sem] theorem c75_12_wp : type_of% (wp_of c75_12.eq_1) := wp_of c75_12.eq_1
@[go_sem] theorem c75_13_wp : type_of% (wp_of c75_13.eq_1) := wp_of c75_13.eq_1
@[go_sem] theorem c75_14_wp : type_of% (wp_of c75_14.eq_1) := wp_of c75_14.eq_1
@[go_sem] theorem c75_15_wp : type_of% (wp_of c75_15.eq_1) := wp_of c75_15.eq_1
@[go_sem] theorem c75_16_wp : type_of% (wp_of c75_16.eq_1) := wp_of c75_16.eq_1
@[go_sem] theorem c75_17_wp : type_of% (wp_of c75_17.eq_1) := wp_of c75_17.eq_1
def c75 : AFn := ⟨33, [.t 2], c75_17⟩
set_option maxRecDepth 100000 in
theorem c75_ok : compF Tryz.prog Tryz.f75 = some c75 := by kernel_rfl
theorem a75 {args : List AV} {σ : ASt} {R : AV → ASt → Prop} (hl : args.length ≤ 33) (h : c75_17.wp Tryz.prog (RetQ [.t 2] R) (init args) σ) : ACalls Tryz.prog 75 args σ R := acalls_of Tryz.func75 c75_ok hl h
/-! 77: tabular/token.Signs -/
def c77_0 : ACode := .ops [
    ⟨(some 2), none, .q (.mv (.v (.int .i64 0))), []⟩,
    ⟨(some 3), none, .q (.mv (.v (.bool false))), []⟩]
def c77_1 : ACode := .ops [
    ⟨(some 4), none, .q (.mv (.v (.int .i64 0))), []⟩]
def c77_2 : ACode := .ops [
    ⟨(some 9), none, .q (.mv (.t 0)), []⟩,
    ⟨(some 10), none, .e (.rng (.t 9)), []⟩]
def c77_3 : ACode := .ops [
    ⟨(some 11), none, .e (.nxt (.t 10)), []⟩,
    ⟨(some 12), none, .q (.ext 0 (.t 11)), []⟩]
def c77_4 : ACode := .cond (.t 12) .skip (.exit 0)
def c77_5 : ACode := .ops [
    ⟨(some 13), none, .q (.ext 1 (.t 11)), []⟩,
    ⟨(some 14), none, .q (.ext 2 (.t 11)), []⟩,
    ⟨(some 5), none, .q (.mv (.t 13)), []⟩,
    ⟨(some 6), none, .q (.mv (.t 14)), []⟩]
def c77_6 : ACode := .ops [
    ⟨(some 15), none, .q (.mv (.t 6)), []⟩,
    ⟨(some 16), none, .q (.bin .eql (.t 15) (.v (.int .i32 65533))), []⟩]
def c77_7 : ACode := .ops [
    ⟨(some 18), none, .q (.mv (.t 0)), []⟩,
    ⟨(some 19), none, .q (.mv (.t 5)), []⟩,
    ⟨(some 20), none, .q (.slfrom (true, 0) (.t 18) (.t 19)), []⟩,
    ⟨(some 21), none, .e (.call 94 [(.t 20)]), []⟩,
    ⟨(some 17), none, .q (.mv (.t 21)), []⟩,
    ⟨(some 22), none, .q (.ext 0 (.t 17)), []⟩,
    ⟨(some 23), none, .q (.ext 1 (.t 17)), []⟩,
    ⟨(some 7), none, .q (.mv (.t 22)), []⟩,
    ⟨(some 8), none, .q (.mv (.t 23)), []⟩]
def c77_8 : ACode := .ops [
    ⟨(some 24), none, .q (.mv (.t 8)), []⟩,
    ⟨(some 25), none, .q (.bin .eql (.t 24) (.v (.int .i64 1))), []⟩]
def c77_9 : ACode := .ops [
    ⟨(some 2), none, .q (.mv (.v (.int .i64 0))), []⟩,
    ⟨(some 3), none, .q (.mv (.v (.bool false))), []⟩]
def c77_10 : ACode := .seq c77_9 .ret
def c77_11 : ACode := .cond (.t 25) c77_10 .skip
def c77_12 : ACode := .seq c77_8 c77_11
def c77_13 : ACode := .seq c77_7 c77_12
def c77_14 : ACode := .cond (.t 16) c77_13 .skip
def c77_15 : ACode := .seq c77_6 c77_14
def c77_16 : ACode := .ops [
    ⟨(some 26), none, .q (.mv (.t 4)), []⟩,
    ⟨(some 27), none, .q (.bin .add (.t 26) (.v (.int .i64 1))), []⟩,
    ⟨(some 4), none, .q (.mv (.t 27)), []⟩]
def c77_17 : ACode := .seq c77_15 c77_16
def c77_18 : ACode := .seq c77_5 c77_17
def c77_19 : ACode := .block 1 c77_18
def c77_20 : ACode := .seq c77_4 c77_19
def c77_21 : ACode := .seq c77_3 c77_20
def c77_22 : ACode := .loop c77_21
def c77_23 : ACode := .block 0 c77_22
def c77_24 : ACode := .seq c77_2 c77_23
def c77_25 : ACode := .ops [
    ⟨(some 28), none, .q (.mv (.t 4)), []⟩,
    ⟨(some 2), none, .q (.mv (.t 28)), []⟩,
    ⟨(some 3), none, .q (.mv (.v (.bool true))), []⟩]
def c77_26 : ACode := .seq c77_25 .ret
def c77_27 : ACode := .seq c77_24 c77_26
def c77_28 : ACode := .seq c77_1 c77_27
def c77_29 : ACode := .seq c77_0 c77_28
@[go_sem] theorem c77_0_wp : type_of% (wp_of c77_0.eq_1) := wp_of c77_0.eq_1
@[go_sem] theorem c77_1_wp : type_of% (wp_of c77_1.eq_1) := wp_of c77_1.eq_1
@[go_sem] theorem c77_2_wp : type_of% (wp_of c77_2.eq_1) := wp_of c77_2.eq_1
@[go_sem] theorem c77_3_wp : type_of% (wp_of c77_3.eq_1) := wp_of c77_3.eq_1
@[go_sem] theorem c77_4_wp : type_of% (wp_of c77_4.eq_1) := wp_of c77_4.eq_1
@[go_sem] theorem c77_5_wp : type_of% (wp_of c77_5.eq_1) := wp_of c77_5.eq_1
@[go_sem] theorem c77_6_wp : type_of% (wp_of c77_6.eq_1) := wp_of c77_6.eq_1
@[go_sem] theorem c77_7_wp : type_of% (wp_of c77_7.eq_1) := wp_of c77_7.eq_1
@[go_sem] theorem c77_8_wp : type_of% (wp_of c77_8.eq_1) := wp_of c77_8.eq_1
@[go_sem] theorem c77_9_wp : type_of% (wp_of c77_9.eq_1) := wp_of c77_9.eq_1
@[go_sem] theorem c77_10_wp : type_of% (wp_of c77_10.eq_1) := wp_of c77_10.eq_1
@[go_sem] theorem c77_11_wp : type_of% (wp_of c77_11.eq_1) := wp_of c77_11.eq_1
@[go_sem] theorem c77_12_wp : type_of% (wp_of c77_12.eq_1) := wp_of c77_12.eq_1
@[go_sem] theorem c77_13_wp : type_of% (wp_of c77_13.eq_1) := wp_of c77_13.eq_1
@[go_sem] theorem c77_14_wp : type_of% (wp_of c77_14.eq_1) := wp_of c77_14.eq_1
@[go_sem] theorem c77_15_wp : type_of% (wp_of c77_15.eq_1) := wp_of c77_15.eq_1
@[go_sem] theorem c77_16_wp : type_of% (wp_of c77_16.eq_1) := wp_of c77_16.eq_1
@[go_sem] theorem c77_17_wp : type_of% (wp_of c77_17.eq_1) := wp_of c77_17.eq_1
@[go_sem] theorem c77_18_wp : type_of% (wp_of c77_18.eq_1) := wp_of c77_18.eq_1
@[go_sem] theorem c77_19_wp : type_of% (wp_of c77_19.eq_1) := wp_of c77_19.eq_1
@[go_sem] theorem c77_20_wp : type_of% (wp_of c77_20.eq_1) := wp_of c77_20.eq_1
@[go_sem] theorem c77_21_wp : type_of% (wp_of c77_21.eq_1) := wp_of c77_21.eq_1
@[go_sem] theorem c77_22_wp : type_of% (wp_of c77_22.eq_1) := wp_of c77_22.eq_1
@[go_sem] theorem c77_23_wp : type_of% (wp_of c77_23.eq_1) := wp_of c77_23.eq_1
@[go_sem] theorem c77_24_wp : type_of% (wp_of c77_24.eq_1) := wp_of c77_24.eq_1
@[go_sem] theorem c77_25_wp : type_of% (wp_of c77_25.eq_1) := wp_of c77_25.eq_1
@[go_sem] theorem c77_26_wp : type_of% (wp_of c77_26.eq_1) := wp_of c77_26.eq_1
@[go_sem] theorem c77_27_wp : type_of% (wp_of c77_27.eq_1) := wp_of c77_27.eq_1
@[go_sem] theorem c77_28_wp : type_of% (wp_of c77_28.eq_1) := wp_of c77_28.eq_1
@[go_sem] theorem c77_29_wp : type_of% (wp_of c77_29.eq_1) := wp_of c77_29.eq_1
def c77 : AFn := ⟨29, [.t 2, .t 3], c77_29⟩
set_option maxRecDepth 100000 in
theorem c77_ok : compF Tryz.prog Tryz.f77 = some c77 := by kernel_rfl
theorem a77 {args : List AV} {σ : ASt} {R : AV → ASt → Prop} (hl : args.length ≤ 29) (h : c77_29.wp Tryz.prog (RetQ [.t 2, .t 3] R) (init args) σ) : ACalls Tryz.prog 77 args σ R := acalls_of Tryz.func77 c77_ok hl h
/-! 78: tabular/expr.getRef -/
def c78_0 : ACode := .ops [
    ⟨(some 2), none, .e (.alloc [(.int .i64 0), (.int .i64 0), (.bool false), (.bool false)]), []⟩,
    ⟨(some 3), none, .q (.mv (.v (.bool false))), []⟩]
def c78_1 : ACode := .ops [
    ⟨(some 6), none, .q (.mv (.t 0)), []⟩,
    ⟨(some 7), none, .e (.call 71 [(.t 6)]), []⟩,
    ⟨(some 8), none, .q (.mv (.t 0)), []⟩,
    ⟨(some 9), none, .e (.call 71 [(.t 8)]), []⟩,
    ⟨(some 4), none, .q (.mv (.t 7)), []⟩,
    ⟨(some 5), none, .q (.mv (.t 9)), []⟩]
def c78_2 : ACode := .ops [
    ⟨(some 10), none, .q (.mv (.t 4)), []⟩,
    ⟨(some 11), none, .q (.bin .geq (.t 10) (.v (.int .u64 12000))), []⟩,
    ⟨(some 12), none, .q (.mv (.t 11)), []⟩,
    ⟨(some 13), (some (12, false)), .q (.mv (.t 5)), []⟩,
    ⟨(some 14), (some (12, false)), .q (.bin .geq (.t 13) (.v (.int .u64 700))), []⟩,
    ⟨(some 15), none, .q (.pick (.t 12) (.v (.bool true)) (.t 14)), []⟩]
def c78_3 : ACode := .ops [
    ⟨(some 16), none, .q (.build [(.int .i64 0), (.int .i64 0), (.bool false), (.bool false)] []), []⟩,
    ⟨none, none, .e (.store 4 (.t 2) (.t 16)), []⟩,
    ⟨(some 3), none, .q (.mv (.v (.bool false))), []⟩]
def c78_4 : ACode := .seq c78_3 .ret
def c78_5 : ACode := .cond (.t 15) c78_4 .skip
def c78_6 : ACode := .seq c78_2 c78_5
def c78_7 : ACode := .ops [
    ⟨(some 17), none, .q (.mv (.t 4)), []⟩,
    ⟨(some 18), none, .q (.bin .quo (.t 17) (.v (.int .u64 4))), []⟩,
    ⟨(some 19), none, .q (.conv .i64 (.t 18)), []⟩,
    ⟨(some 20), none, .q (.mv (.t 5)), []⟩,
    ⟨(some 21), none, .q (.conv .i64 (.t 20)), []⟩,
    ⟨(some 22), none, .q (.mv (.t 4)), []⟩,
    ⟨(some 23), none, .q (.bin .and (.t 22) (.v (.int .u64 1))), []⟩,
    ⟨(some 24), none, .q (.bin .eql (.t 23) (.v (.int .u64 1))), []⟩,
    ⟨(some 25), none, .q (.mv (.t 4)), []⟩,
    ⟨(some 26), none, .q (.bin .and (.t 25) (.v (.int .u64 2))), []⟩,
    ⟨(some 27), none, .q (.bin .eql (.t 26) (.v (.int .u64 2))), []⟩,
    ⟨(some 28), none, .q (.build [(.int .i64 0), (.int .i64 0), (.bool false), (.bool false)] [(0, 1, (.t 19)), (1, 1, (.t 21)), (2, 1, (.t 24)), (3, 1, (.t 27))]), []⟩,
    ⟨none, none, .e (.store 4 (.t 2) (.t 28)), []⟩,
    ⟨(some 3), none, .q (.mv (.v (.bool true))), []⟩]
def c78_8 : ACode := .seq c78_7 .ret
def c78_9 : ACode := .seq c78_6 c78_8
def c78_10 : ACode := .seq c78_1 c78_9
def c78_11 : ACode := .seq c78_0 c78_10
@[go_sem] theorem c78_0_wp : type_of% (wp_of c78_0.eq_1) := wp_of c78_0.eq_1
@[go_sem] theorem c78_1_wp : type_of% (wp_of c78_1.eq_1) := wp_of c78_1.eq_1
@[go_sem] theorem c78_2_wp : type_of% (wp_of c78_2.eq_1) := wp_of c78_2.eq_1
@[go_sem] theorem c78_3_wp : type_of% (wp_of c78_3.eq_1) := wp_of c78_3.eq_1
@[go_sem] theorem c78_4_wp : type_of% (wp_of c78_4.eq_1) := wp_of c78_4.eq_1
@[go_sem] theorem c78_5_wp : type_of% (wp_of c78_5.eq_1) := wp_of c78_5.eq_1
@[go_sem] theorem c78_6_wp : type_of% (wp_of c78_6.eq_1) := wp_of c78_6.eq_1
@[go_sem] theorem c78_7_wp : type_of% (wp_of c78_7.eq_1) := wp_of c78_7.eq_1
@[go_sem] theorem c78_8_wp : type_of% (wp_of c78_8.eq_1) := wp_of c78_8.eq_1
@[go_sem] theorem c78_9_wp : type_of% (wp_of c78_9.eq_1) := wp_of c78_9.eq_1
@[go_sem] theorem c78_10_wp : type_of% (wp_of c78_10.eq_1) := wp_of c78_10.eq_1
@[go_sem] theorem c78_11_wp : type_of% (wp_of c78_11.eq_1) := wp_of c78_11.eq_1
def c78 : AFn := ⟨29, [.c 2 (some 4), .t 3], c78_11⟩
set_option maxRecDepth 100000 in
theorem c78_ok : compF Tryz.prog Tryz.f78 = some c78 := by kernel_rfl
theorem a78 {args : List AV} {σ : ASt} {R : AV → ASt → Prop} (hl : args.length ≤ 29) (h : c78_11.wp Tryz.prog (RetQ [.c 2 (some 4), .t 3] R) (init args) σ) : ACalls Tryz.prog 78 args σ R := acalls_of Tryz.func78 c78_ok hl h
/-! 79: tabular/expr.name -/
def c79_0 : ACode := .ops [
    ⟨(some 2), none, .q (.mv (.v (.bool false))), []⟩]
def c79_1 : ACode := .ops [
    ⟨(some 7), none, .q (.mv (.t 0)), []⟩,
    ⟨(some 8), none, .e (.call 95 [(.t 7)]), []⟩,
    ⟨(some 6), none, .q (.mv (.t 8)), []⟩,
    ⟨(some 9), none, .q (.ext 0 (.t 6)), []⟩,
    ⟨(some 10), none, .q (.ext 1 (.t 6)), []⟩,
    ⟨(some 11), none, .q (.ext 2 (.t 6)), []⟩,
    ⟨(some 3), none, .q (.mv (.t 9)), []⟩,
    ⟨(some 4), none, .q (.mv (.t 10)), []⟩,
    ⟨(some 5), none, .q (.mv (.t 11)), []⟩]
def c79_2 : ACode := .ops [
    ⟨(some 12), none, .q (.mv (.t 5)), []⟩,
    ⟨(some 13), none, .q (.bin .eql (.t 12) (.v (.int .i64 0))), []⟩,
    ⟨(some 14), none, .q (.mv (.t 13)), []⟩,
    ⟨(some 15), (some (14, true)), .q (.mv (.t 3)), []⟩,
    ⟨(some 16), (some (14, true)), .q (.len (.t 15)), []⟩,
    ⟨(some 17), (some (14, true)), .q (.bin .eql (.t 16) (.v (.int .i64 2))), []⟩,
    ⟨(some 18), none, .q (.pick (.t 14) (.t 17) (.v (.bool false))), []⟩,
    ⟨(some 19), none, .q (.mv (.t 18)), []⟩,
    ⟨(some 20), (some (19, true)), .q (.mv (.t 3)), []⟩,
    ⟨(some 21), (some (19, true)), .q (.ia 4 (.t 20) (.v (.int .i64 0))), []⟩,
    ⟨(some 22), (some (19, true)), .q (.fa 0 (.t 21)), []⟩,
    ⟨(some 23), (some (19, true)), .q (.ld none (.t 22)), []⟩,
    ⟨(some 24), (some (19, true)), .q (.bin .eql (.t 23) (.v (.int .i64 3))), []⟩,
    ⟨(some 25), none, .q (.pick (.t 19) (.t 24) (.v (.bool false))), []⟩,
    ⟨(some 26), none, .q (.mv (.t 25)), []⟩,
    ⟨(some 27), (some (26, true)), .q (.mv (.t 3)), []⟩,
    ⟨(some 28), (some (26, true)), .q (.ia 4 (.t 27) (.v (.int .i64 0))), []⟩,
    ⟨(some 29), (some (26, true)), .q (.fa 1 (.t 28)), []⟩,
    ⟨(some 30), (some (26, true)), .q (.ld none (.t 29)), []⟩,
    ⟨(some 31), (some (26, true)), .q (.mv (.t 0)), []⟩,
    ⟨(some 32), (some (26, true)), .q (.bin .eql (.t 30) (.t 31)), []⟩,
    ⟨(some 33), none, .q (.pick (.t 26) (.t 32) (.v (.bool false))), []⟩,
    ⟨(some 2), none, .q (.mv (.t 33)), []⟩]
def c79_3 : ACode := .seq c79_2 .ret
def c79_4 : ACode := .seq c79_1 c79_3
def c79_5 : ACode := .seq c79_0 c79_4
@[go_sem] theorem c79_0_wp : type_of% (wp_of c79_0.eq_1) := wp_of c79_0.eq_1
@[go_sem] theorem c79_1_wp : type_of% (wp_of c79_1.eq_1) := wp_of c79_1.eq_1
@[go_sem] theorem c79_2_wp : type_of% (wp_of c79_2.eq_1) := wp_of c79_2.eq_1
@[go_sem] theorem c79_3_wp : type_of% (wp_of c79_3.eq_1) := wp_of c79_3.eq_1
@[go_sem] theorem c79_4_wp : type_of% (wp_of c79_4.eq_1) := wp_of c79_4.eq_1
@[go_sem] theorem c79_5_wp : type_of% (wp_of c79_5.eq_1) := wp_of c79_5.eq_1
def c79 : AFn := ⟨34, [.t 2], c79_5⟩
set_option maxRecDepth 100000 in
theorem c79_ok : compF Tryz.prog Tryz.f79 = some c79 := by kernel_rfl
theorem a79 {args : List AV} {σ : ASt} {R : AV → ASt → Prop} (hl : args.length ≤ 34) (h : c79_5.wp Tryz.prog (RetQ [.t 2] R) (init args) σ) : ACalls Tryz.prog 79 args σ R := acalls_of Tryz.func79 c79_ok hl h
end Go.A
namespace Go.A
open Go.Proofs Go.Lib Go.Vint
set_option maxRecDepth 100000
set_option linter.unusedSimpArgs false
set_option linter.unusedVariables false
theorem tsigns_ok {σ : ASt} (h : U8 σ) (s : List UInt8) (hs : s.length ≤ 4611686018427387904) : ACalls Tryz.prog 77 [.str s] σ fun v σ' => v = sgAV s ∧ σ' = σ := by
  refine a77 (by simp) ?_
  obtain ⟨R, hR⟩ : ∃ R, sgT s = R := ⟨_, rfl⟩
  unfold sgAV
  rw [hR]
  obtain ⟨F, hF⟩ : ∃ F, F = ACode.wp Tryz.prog c77_26 := ⟨_, rfl⟩
  simp (disch := first | assumption | omega | (simp only [List.length_append, List.length_cons, List.length_nil]; omega)) only [go_sem, reduceCtorEq, Nat.reduceEqDiff, Nat.reduceAdd, Nat.reduceSub, Nat.reduceMul, Nat.reduceLeDiff, Int.reduceLT, Int.reduceLE, Int.reduceEq, ↓reduceIte, Int.reduceNeg, Int.reduceAdd, Int.reduceSub, Int.reduceMul, true_imp_iff, forall_const, Nat.mul_one, Int.reduceToNat, Nat.reducePow, Int.reducePow, Bool.true_and, Bool.false_and, Bool.and_false, ←hF]
  refine fun b hb => ?_
  simp (disch := first | assumption | omega | (simp only [List.length_append, List.length_cons, List.length_nil]; omega)) only [go_sem, reduceCtorEq, Nat.reduceEqDiff, Nat.reduceAdd, Nat.reduceSub, Nat.reduceMul, Nat.reduceLeDiff, Int.reduceLT, Int.reduceLE, Int.reduceEq, ↓reduceIte, Int.reduceNeg, Int.reduceAdd, Int.reduceSub, Int.reduceMul, true_imp_iff, forall_const, Nat.mul_one, Int.reduceToNat, Nat.reducePow, Int.reducePow, Bool.true_and, Bool.false_and, Bool.and_false, ←hF]
  refine wp_loop_by (fun (p : Nat) a σ' => p ≤ s.length ∧ (∃ n : Nat, R = (sgT (s.drop p)).map (· + n) ∧ n ≤ p ∧ a 4 = .int .i64 n) ∧ (a 0 = .str s ∧ a 10 = .ptr b 0) ∧ σ' = σ.set b (some (.iter s p))) (fun p => s.length - p) 0 (Dr.now ⟨Nat.zero_le _, ⟨0, ?_, Nat.le_refl _, ?_⟩, ?_, rfl⟩) ?_
  · rw [← hR, List.drop_zero]; cases sgT s <;> rfl
  · simp (disch := first | assumption | omega | (simp only [List.length_append, List.length_cons, List.length_nil]; omega)) only [go_sem, reduceCtorEq, Nat.reduceEqDiff, Nat.reduceAdd, Nat.reduceSub, Nat.reduceMul, Nat.reduceLeDiff, Int.reduceLT, Int.reduceLE, Int.reduceEq, ↓reduceIte, Int.reduceNeg, Int.reduceAdd, Int.reduceSub, Int.reduceMul, true_imp_iff, forall_const, Nat.mul_one, Int.reduceToNat, Nat.reducePow, Int.reducePow, Bool.true_and, Bool.false_and, Bool.and_false]
  · simp (disch := first | assumption | omega | (simp only [List.length_append, List.length_cons, List.length_nil]; omega)) only [go_sem, reduceCtorEq, Nat.reduceEqDiff, Nat.reduceAdd, Nat.reduceSub, Nat.reduceMul, Nat.reduceLeDiff, Int.reduceLT, Int.reduceLE, Int.reduceEq, ↓reduceIte, Int.reduceNeg, Int.reduceAdd, Int.reduceSub, Int.reduceMul, true_imp_iff, forall_const, Nat.mul_one, Int.reduceToNat, Nat.reducePow, Int.reducePow, Bool.true_and, Bool.false_and, Bool.and_false]
  rintro p a σ1 ⟨hp, ⟨n, hm, hn, h4⟩, hf, rfl⟩
  by_cases hlt : p < s.length
  · have hlt' : (p : Int) < s.length := by omega
    have hne : s.drop p ≠ [] := by
      intro e
      have := congrArg List.length e
      rw [List.length_drop] at this
      simp at this
      omega
    obtain ⟨⟨r, w⟩, hD⟩ : ∃ D, decodeL (s.drop p) = D := ⟨_, rfl⟩
    have hD2 : Utf8.decode ⟨⟨s⟩⟩ p = (r, w) := by rw [← hD]; exact (decodeL_drop ⟨⟨s⟩⟩ p).symm
    have hw := decodeL_width (s.drop p)
    have hwle := decodeL_le (s.drop p) hne
    have hrb := decodeL_rune (s.drop p)
    rw [List.length_drop] at hwle
    rw [hD] at hw hwle hrb
    dsimp only at hw hwle hrb
    by_cases hr : r = 65533
    · have hr' : (r : Int) = 65533 := by omega
      have hdc := dec_ok (h.set hb (r := some (.iter s (p + w)))) hne
      rw [hD] at hdc
      by_cases hw1 : w = 1
      · have hbad := sgT_bad hne (by rw [hD, hr, hw1])
        rw [hbad] at hm
        simp only [Option.map_none] at hm
        subst hm
        subst hw1
        have e1 : ((1 : Nat) : Int) = 1 := rfl
        rw [e1] at hdc
        simp (disch := first | assumption | omega | (simp only [List.length_append, List.length_cons, List.length_nil]; omega)) only [go_sem, reduceCtorEq, Nat.reduceEqDiff, Nat.reduceAdd, Nat.reduceSub, Nat.reduceMul, Nat.reduceLeDiff, Int.reduceLT, Int.reduceLE, Int.reduceEq, ↓reduceIte, Int.reduceNeg, Int.reduceAdd, Int.reduceSub, Int.reduceMul, true_imp_iff, forall_const, Nat.mul_one, Int.reduceToNat, Nat.reducePow, Int.reducePow, Bool.true_and, Bool.false_and, Bool.and_false, hf, h4, ←hF]
        refine nxt_more hlt ?_
        rw [hD2]
        simp (disch := first | assumption | omega | (simp only [List.length_append, List.length_cons, List.length_nil]; omega)) only [go_sem, reduceCtorEq, Nat.reduceEqDiff, Nat.reduceAdd, Nat.reduceSub, Nat.reduceMul, Nat.reduceLeDiff, Int.reduceLT, Int.reduceLE, Int.reduceEq, ↓reduceIte, Int.reduceNeg, Int.reduceAdd, Int.reduceSub, Int.reduceMul, true_imp_iff, forall_const, Nat.mul_one, Int.reduceToNat, Nat.reducePow, Int.reducePow, Bool.true_and, Bool.false_and, Bool.and_false, hf, h4, hlt, hlt', hr', List.take_length, ←hF]
        refine hdc.mono ?_
        rintro v σ' ⟨rfl, rfl⟩
        simp (disch := first | assumption | omega | (simp only [List.length_append, List.length_cons, List.length_nil]; omega)) only [go_sem, reduceCtorEq, Nat.reduceEqDiff, Nat.reduceAdd, Nat.reduceSub, Nat.reduceMul, Nat.reduceLeDiff, Int.reduceLT, Int.reduceLE, Int.reduceEq, ↓reduceIte, Int.reduceNeg, Int.reduceAdd, Int.reduceSub, Int.reduceMul, true_imp_iff, forall_const, Nat.mul_one, Int.reduceToNat, Nat.reducePow, Int.reducePow, Bool.true_and, Bool.false_and, Bool.and_false, hf, ASt.set_set]
        exact retC_by (by repeat' (first | exact Drop.refl _ | with_reducible refine Drop.off ?_ (by assumption))) (.refl _) ⟨rfl, rfl⟩
      · have hw1' : ¬ (w : Int) = 1 := by omega
        have hgo := sgT_step hne (by rw [hD]; intro h; injection h with _ h; exact hw1 h)
        rw [hD] at hgo
        dsimp only at hgo
        rw [hgo, List.drop_drop, Option.map_map] at hm
        simp (disch := first | assumption | omega | (simp only [List.length_append, List.length_cons, List.length_nil]; omega)) only [go_sem, reduceCtorEq, Nat.reduceEqDiff, Nat.reduceAdd, Nat.reduceSub, Nat.reduceMul, Nat.reduceLeDiff, Int.reduceLT, Int.reduceLE, Int.reduceEq, ↓reduceIte, Int.reduceNeg, Int.reduceAdd, Int.reduceSub, Int.reduceMul, true_imp_iff, forall_const, Nat.mul_one, Int.reduceToNat, Nat.reducePow, Int.reducePow, Bool.true_and, Bool.false_and, Bool.and_false, hf, h4, ←hF]
        refine nxt_more hlt ?_
        rw [hD2]
        simp (disch := first | assumption | omega | (simp only [List.length_append, List.length_cons, List.length_nil]; omega)) only [go_sem, reduceCtorEq, Nat.reduceEqDiff, Nat.reduceAdd, Nat.reduceSub, Nat.reduceMul, Nat.reduceLeDiff, Int.reduceLT, Int.reduceLE, Int.reduceEq, ↓reduceIte, Int.reduceNeg, Int.reduceAdd, Int.reduceSub, Int.reduceMul, true_imp_iff, forall_const, Nat.mul_one, Int.reduceToNat, Nat.reducePow, Int.reducePow, Bool.true_and, Bool.false_and, Bool.and_false, hf, h4, hlt, hlt', hr', List.take_length, ←hF]
        refine hdc.mono ?_
        rintro v σ' ⟨rfl, rfl⟩
        simp (disch := first | assumption | omega | (simp only [List.length_append, List.length_cons, List.length_nil]; omega)) only [go_sem, reduceCtorEq, Nat.reduceEqDiff, Nat.reduceAdd, Nat.reduceSub, Nat.reduceMul, Nat.reduceLeDiff, Int.reduceLT, Int.reduceLE, Int.reduceEq, ↓reduceIte, Int.reduceNeg, Int.reduceAdd, Int.reduceSub, Int.reduceMul, true_imp_iff, forall_const, Nat.mul_one, Int.reduceToNat, Nat.reducePow, Int.reducePow, Bool.true_and, Bool.false_and, Bool.and_false, hf, h4, hw1', ASt.set_set]
        refine ⟨p + w, by dsimp only; omega, Dr.now ⟨by omega, ⟨n + 1, ?_, by omega, ?_⟩, ?_, rfl⟩⟩
        · rw [hm]
          congr 1
          funext x
          simp only [Function.comp]
          omega
        · simp (disch := first | assumption | omega | (simp only [List.length_append, List.length_cons, List.length_nil]; omega)) only [go_sem, reduceCtorEq, Nat.reduceEqDiff, Nat.reduceAdd, Nat.reduceSub, Nat.reduceMul, Nat.reduceLeDiff, Int.reduceLT, Int.reduceLE, Int.reduceEq, ↓reduceIte, Int.reduceNeg, Int.reduceAdd, Int.reduceSub, Int.reduceMul, true_imp_iff, forall_const, Nat.mul_one, Int.reduceToNat, Nat.reducePow, Int.reducePow, Bool.true_and, Bool.false_and, Bool.and_false, hf, h4]
        · simp (disch := first | assumption | omega | (simp only [List.length_append, List.length_cons, List.length_nil]; omega)) only [go_sem, reduceCtorEq, Nat.reduceEqDiff, Nat.reduceAdd, Nat.reduceSub, Nat.reduceMul, Nat.reduceLeDiff, Int.reduceLT, Int.reduceLE, Int.reduceEq, ↓reduceIte, Int.reduceNeg, Int.reduceAdd, Int.reduceSub, Int.reduceMul, true_imp_iff, forall_const, Nat.mul_one, Int.reduceToNat, Nat.reducePow, Int.reducePow, Bool.true_and, Bool.false_and, Bool.and_false, hf, h4]
    · have hr' : ¬ (r : Int) = 65533 := by omega
      have hgo := sgT_step hne (by rw [hD]; intro h; injection h with h _; exact hr h)
      rw [hD] at hgo
      dsimp only at hgo
      rw [hgo, List.drop_drop, Option.map_map] at hm
      simp (disch := first | assumption | omega | (simp only [List.length_append, List.length_cons, List.length_nil]; omega)) only [go_sem, reduceCtorEq, Nat.reduceEqDiff, Nat.reduceAdd, Nat.reduceSub, Nat.reduceMul, Nat.reduceLeDiff, Int.reduceLT, Int.reduceLE, Int.reduceEq, ↓reduceIte, Int.reduceNeg, Int.reduceAdd, Int.reduceSub, Int.reduceMul, true_imp_iff, forall_const, Nat.mul_one, Int.reduceToNat, Nat.reducePow, Int.reducePow, Bool.true_and, Bool.false_and, Bool.and_false, hf, h4, ←hF]
      refine nxt_more hlt ?_
      rw [hD2]
      simp (disch := first | assumption | omega | (simp only [List.length_append, List.length_cons, List.length_nil]; omega)) only [go_sem, reduceCtorEq, Nat.reduceEqDiff, Nat.reduceAdd, Nat.reduceSub, Nat.reduceMul, Nat.reduceLeDiff, Int.reduceLT, Int.reduceLE, Int.reduceEq, ↓reduceIte, Int.reduceNeg, Int.reduceAdd, Int.reduceSub, Int.reduceMul, true_imp_iff, forall_const, Nat.mul_one, Int.reduceToNat, Nat.reducePow, Int.reducePow, Bool.true_and, Bool.false_and, Bool.and_false, hf, h4, hlt, hlt', hr', ASt.set_set, ←hF]
      refine ⟨p + w, by dsimp only; omega, Dr.now ⟨by omega, ⟨n + 1, ?_, by omega, ?_⟩, ?_, rfl⟩⟩
      · rw [hm]
        congr 1
        funext x
        simp only [Function.comp]
        omega
      · simp (disch := first | assumption | omega | (simp only [List.length_append, List.length_cons, List.length_nil]; omega)) only [go_sem, reduceCtorEq, Nat.reduceEqDiff, Nat.reduceAdd, Nat.reduceSub, Nat.reduceMul, Nat.reduceLeDiff, Int.reduceLT, Int.reduceLE, Int.reduceEq, ↓reduceIte, Int.reduceNeg, Int.reduceAdd, Int.reduceSub, Int.reduceMul, true_imp_iff, forall_const, Nat.mul_one, Int.reduceToNat, Nat.reducePow, Int.reducePow, Bool.true_and, Bool.false_and, Bool.and_false, hf, h4]
      · simp (disch := first | assumption | omega | (simp only [List.length_append, List.length_cons, List.length_nil]; omega)) only [go_sem, reduceCtorEq, Nat.reduceEqDiff, Nat.reduceAdd, Nat.reduceSub, Nat.reduceMul, Nat.reduceLeDiff, Int.reduceLT, Int.reduceLE, Int.reduceEq, ↓reduceIte, Int.reduceNeg, Int.reduceAdd, Int.reduceSub, Int.reduceMul, true_imp_iff, forall_const, Nat.mul_one, Int.reduceToNat, Nat.reducePow, Int.reducePow, Bool.true_and, Bool.false_and, Bool.and_false, hf, h4]
  · have hlt' : ¬ (p : Int) < s.length := by omega
    rw [List.drop_eq_nil_of_le (by omega), sgT_nil] at hm
    simp only [Option.map_some, Nat.zero_add] at hm
    subst hm
    simp (disch := first | assumption | omega | (simp only [List.length_append, List.length_cons, List.length_nil]; omega)) only [go_sem, reduceCtorEq, Nat.reduceEqDiff, Nat.reduceAdd, Nat.reduceSub, Nat.reduceMul, Nat.reduceLeDiff, Int.reduceLT, Int.reduceLE, Int.reduceEq, ↓reduceIte, Int.reduceNeg, Int.reduceAdd, Int.reduceSub, Int.reduceMul, true_imp_iff, forall_const, Nat.mul_one, Int.reduceToNat, Nat.reducePow, Int.reducePow, Bool.true_and, Bool.false_and, Bool.and_false, hf, h4, ←hF]
    refine nxt_over (by omega) ?_
    simp (disch := first | assumption | omega | (simp only [List.length_append, List.length_cons, List.length_nil]; omega)) only [go_sem, reduceCtorEq, Nat.reduceEqDiff, Nat.reduceAdd, Nat.reduceSub, Nat.reduceMul, Nat.reduceLeDiff, Int.reduceLT, Int.reduceLE, Int.reduceEq, ↓reduceIte, Int.reduceNeg, Int.reduceAdd, Int.reduceSub, Int.reduceMul, true_imp_iff, forall_const, Nat.mul_one, Int.reduceToNat, Nat.reducePow, Int.reducePow, Bool.true_and, Bool.false_and, Bool.and_false, hf, h4, ←hF]
    rw [hF]
    simp (disch := first | assumption | omega | (simp only [List.length_append, List.length_cons, List.length_nil]; omega)) only [go_sem, reduceCtorEq, Nat.reduceEqDiff, Nat.reduceAdd, Nat.reduceSub, Nat.reduceMul, Nat.reduceLeDiff, Int.reduceLT, Int.reduceLE, Int.reduceEq, ↓reduceIte, Int.reduceNeg, Int.reduceAdd, Int.reduceSub, Int.reduceMul, true_imp_iff, forall_const, Nat.mul_one, Int.reduceToNat, Nat.reducePow, Int.reducePow, Bool.true_and, Bool.false_and, Bool.and_false, hf, h4]
    exact retC_by (by repeat' (first | exact Drop.refl _ | with_reducible refine Drop.off ?_ (by assumption))) (.refl _) ⟨rfl, rfl⟩
theorem ekids_ok (op : Int) : Pure Tryz.prog 73 [.int .i64 op] (.int .i64 (arity op)) := by
  intro σ
  obtain ⟨q, hq⟩ : ∃ q : Nat, arity op = q := ⟨_, rfl⟩
  rw [hq]
  unfold arity at hq
  refine a73 (by simp) ?_
  by_cases h7 : op = 7
  · rw [if_pos (by omega)] at hq
    subst hq
    simp (disch := first | assumption | omega | (simp only [List.length_append, List.length_cons, List.length_nil]; omega)) only [go_sem, reduceCtorEq, Nat.reduceEqDiff, Nat.reduceAdd, Nat.reduceSub, Nat.reduceMul, Nat.reduceLeDiff, Int.reduceLT, Int.reduceLE, Int.reduceEq, ↓reduceIte, Int.reduceNeg, Int.reduceAdd, Int.reduceSub, Int.reduceMul, true_imp_iff, forall_const, Nat.mul_one, Int.reduceToNat, Nat.reducePow, Int.reducePow, Bool.true_and, Bool.false_and, Bool.and_false, h7]
    exact retC_by (Drop.refl _) (.refl _) ⟨rfl, rfl⟩
  by_cases h8 : op = 8
  · rw [if_pos (by omega)] at hq
    subst hq
    simp (disch := first | assumption | omega | (simp only [List.length_append, List.length_cons, List.length_nil]; omega)) only [go_sem, reduceCtorEq, Nat.reduceEqDiff, Nat.reduceAdd, Nat.reduceSub, Nat.reduceMul, Nat.reduceLeDiff, Int.reduceLT, Int.reduceLE, Int.reduceEq, ↓reduceIte, Int.reduceNeg, Int.reduceAdd, Int.reduceSub, Int.reduceMul, true_imp_iff, forall_const, Nat.mul_one, Int.reduceToNat, Nat.reducePow, Int.reducePow, Bool.true_and, Bool.false_and, Bool.and_false, h8]
    exact retC_by (Drop.refl _) (.refl _) ⟨rfl, rfl⟩
  by_cases h9 : op = 9
  · rw [if_pos (by omega)] at hq
    subst hq
    simp (disch := first | assumption | omega | (simp only [List.length_append, List.length_cons, List.length_nil]; omega)) only [go_sem, reduceCtorEq, Nat.reduceEqDiff, Nat.reduceAdd, Nat.reduceSub, Nat.reduceMul, Nat.reduceLeDiff, Int.reduceLT, Int.reduceLE, Int.reduceEq, ↓reduceIte, Int.reduceNeg, Int.reduceAdd, Int.reduceSub, Int.reduceMul, true_imp_iff, forall_const, Nat.mul_one, Int.reduceToNat, Nat.reducePow, Int.reducePow, Bool.true_and, Bool.false_and, Bool.and_false, h9]
    exact retC_by (Drop.refl _) (.refl _) ⟨rfl, rfl⟩
  rw [if_neg (by omega)] at hq
  by_cases h10 : 10 ≤ op
  · by_cases h22 : op < 22
    · rw [if_pos (by omega)] at hq
      subst hq
      simp (disch := first | assumption | omega | (simp only [List.length_append, List.length_cons, List.length_nil]; omega)) only [go_sem, reduceCtorEq, Nat.reduceEqDiff, Nat.reduceAdd, Nat.reduceSub, Nat.reduceMul, Nat.reduceLeDiff, Int.reduceLT, Int.reduceLE, Int.reduceEq, ↓reduceIte, Int.reduceNeg, Int.reduceAdd, Int.reduceSub, Int.reduceMul, true_imp_iff, forall_const, Nat.mul_one, Int.reduceToNat, Nat.reducePow, Int.reducePow, Bool.true_and, Bool.false_and, Bool.and_false, h7, h8, h9, h10, h22]
      exact retC_by (Drop.refl _) (.refl _) ⟨rfl, rfl⟩
    · rw [if_neg (by omega)] at hq
      subst hq
      simp (disch := first | assumption | omega | (simp only [List.length_append, List.length_cons, List.length_nil]; omega)) only [go_sem, reduceCtorEq, Nat.reduceEqDiff, Nat.reduceAdd, Nat.reduceSub, Nat.reduceMul, Nat.reduceLeDiff, Int.reduceLT, Int.reduceLE, Int.reduceEq, ↓reduceIte, Int.reduceNeg, Int.reduceAdd, Int.reduceSub, Int.reduceMul, true_imp_iff, forall_const, Nat.mul_one, Int.reduceToNat, Nat.reducePow, Int.reducePow, Bool.true_and, Bool.false_and, Bool.and_false, h7, h8, h9, h10, h22]
      exact retC_by (Drop.refl _) (.refl _) ⟨rfl, rfl⟩
  · rw [if_neg (by omega)] at hq
    subst hq
    simp (disch := first | assumption | omega | (simp only [List.length_append, List.length_cons, List.length_nil]; omega)) only [go_sem, reduceCtorEq, Nat.reduceEqDiff, Nat.reduceAdd, Nat.reduceSub, Nat.reduceMul, Nat.reduceLeDiff, Int.reduceLT, Int.reduceLE, Int.reduceEq, ↓reduceIte, Int.reduceNeg, Int.reduceAdd, Int.reduceSub, Int.reduceMul, true_imp_iff, forall_const, Nat.mul_one, Int.reduceToNat, Nat.reducePow, Int.reducePow, Bool.true_and, Bool.false_and, Bool.and_false, h7, h8, h9, h10]
    exact retC_by (Drop.refl _) (.refl _) ⟨rfl, rfl⟩
def refR (s : List UInt8) (p : Nat) (e : Int) : (Ref × Bool) × Nat × Int :=
  (if 12000 ≤ (readU s p e).1 ∨ 700 ≤ (readU s (readU s p e).2.1 (readU s p e).2.2).1 then (.zero, false)
    else (⟨((readU s p e).1 / 4 : Nat), ((readU s (readU s p e).2.1 (readU s p e).2.2).1 : Nat), decide ((readU s p e).1 % 2 = 1), decide ((readU s p e).1 / 2 % 2 = 1)⟩, true),
    (readU s (readU s p e).2.1 (readU s p e).2.2).2)
theorem bit0 {u : Nat} (h : u < 12000) : ((BitVec.ofInt 64 (u : Int) &&& BitVec.ofInt 64 1).toNat : Int) = (u % 2 : Nat) := by
  have : (BitVec.ofInt 64 (u : Int) &&& BitVec.ofInt 64 1).toNat = u &&& 1 := by
    rw [BitVec.toNat_and, ofInt_u64 u (by omega), show (BitVec.ofInt 64 1).toNat = 1 by decide +kernel]
  rw [this, Nat.and_one_is_mod]
theorem bit1 {u : Nat} (h : u < 12000) : ((BitVec.ofInt 64 (u : Int) &&& BitVec.ofInt 64 2).toNat : Int) = (u / 2 % 2 * 2 : Nat) := by
  have : (BitVec.ofInt 64 (u : Int) &&& BitVec.ofInt 64 2).toNat = u &&& 2 := by
    rw [BitVec.toNat_and, ofInt_u64 u (by omega), show (BitVec.ofInt 64 2).toNat = 2 by decide +kernel]
  rw [this]
  have h1 : (u &&& 2) / 2 = u / 2 % 2 := by rw [Nat.and_div_two, show 2 / 2 = 1 from rfl, Nat.and_one_is_mod]
  have h2 : (u &&& 2) % 2 = 0 := by
    have := Nat.and_mod_two_pow (a := u) (b := 2) (n := 1)
    rwa [show 2 % 2 ^ 1 = 0 from rfl, Nat.and_zero] at this
  omega
theorem getref_ok (s : List UInt8) (p : Nat) (e : Int) (b : Nat) (σ : ASt) (hb : σ b = rd s p e) (hs : s.length ≤ 1000000) (hp : p ≤ s.length) :
    ACalls Tryz.prog 78 [.ptr b 0] σ fun v σ' => v = .tuple [refAV (refR s p e).1.1, .bool (refR s p e).1.2] ∧ σ' = σ.set b (rd s (refR s p e).2.1 (refR s p e).2.2) := by
  obtain ⟨q, hq⟩ : ∃ q, refR s p e = q := ⟨_, rfl⟩
  rw [hq]
  unfold refR at hq
  obtain ⟨f1, f2, f3, f4⟩ := readU_facts s p e hp
  have h1 := fun (τ : ASt) (h : τ b = rd s p e) => ruint_ok s p e b τ h (by omega) hp
  generalize readU s p e = R at *
  obtain ⟨u, p1, e1⟩ := R
  dsimp only at *
  obtain ⟨g1, g2, g3, g4⟩ := readU_facts s p1 e1 f2
  have h2 := fun (τ : ASt) (h : τ b = rd s p1 e1) => ruint_ok s p1 e1 b τ h (by omega) f2
  generalize readU s p1 e1 = R at *
  obtain ⟨v, p2, e2⟩ := R
  dsimp only at *
  refine a78 (by simp) ?_
  simp (disch := first | assumption | omega | (simp only [List.length_append, List.length_cons, List.length_nil]; omega)) only [go_sem, reduceCtorEq, Nat.reduceEqDiff, Nat.reduceAdd, Nat.reduceSub, Nat.reduceMul, Nat.reduceLeDiff, Int.reduceLT, Int.reduceLE, Int.reduceEq, ↓reduceIte, Int.reduceNeg, Int.reduceAdd, Int.reduceSub, Int.reduceMul, true_imp_iff, forall_const, Nat.mul_one, Int.reduceToNat, Nat.reducePow, Int.reducePow, Bool.true_and, Bool.false_and, Bool.and_false]
  refine allocC_by fun d hd => ?_
  have hbd : b ≠ d := by rintro rfl; rw [hb] at hd; cases hd
  have hb2 : ∀ X : Option Role, (σ.set d X) b = rd s p e := fun X => by rw [ASt.set_ne hbd]; exact hb
  have hsw : ∀ (X Y : Option Role), (σ.set d X).set b Y = (σ.set b Y).set d X := fun X Y => set_swap (Ne.symm hbd)
  simp (disch := first | assumption | omega | (simp only [List.length_append, List.length_cons, List.length_nil]; omega)) only [go_sem, reduceCtorEq, Nat.reduceEqDiff, Nat.reduceAdd, Nat.reduceSub, Nat.reduceMul, Nat.reduceLeDiff, Int.reduceLT, Int.reduceLE, Int.reduceEq, ↓reduceIte, Int.reduceNeg, Int.reduceAdd, Int.reduceSub, Int.reduceMul, true_imp_iff, forall_const, Nat.mul_one, Int.reduceToNat, Nat.reducePow, Int.reducePow, Bool.true_and, Bool.false_and, Bool.and_false]
  refine (h1 _ (hb2 _)).mono ?_
  rintro x σ1 ⟨rfl, rfl⟩
  simp (disch := first | assumption | omega | (simp only [List.length_append, List.length_cons, List.length_nil]; omega)) only [go_sem, reduceCtorEq, Nat.reduceEqDiff, Nat.reduceAdd, Nat.reduceSub, Nat.reduceMul, Nat.reduceLeDiff, Int.reduceLT, Int.reduceLE, Int.reduceEq, ↓reduceIte, Int.reduceNeg, Int.reduceAdd, Int.reduceSub, Int.reduceMul, true_imp_iff, forall_const, Nat.mul_one, Int.reduceToNat, Nat.reducePow, Int.reducePow, Bool.true_and, Bool.false_and, Bool.and_false]
  refine (h2 _ (ASt.set_same _ _ _)).mono ?_
  rintro x σ2 ⟨rfl, rfl⟩
  have hdd : ∀ X Y : Option Role, Drop ((σ.set b X).set d Y) (σ.set b X) := fun X Y => Drop.set (by rw [ASt.set_ne (Ne.symm hbd)]; exact hd)
  have hsw2 : ∀ (X Y Z : Option Role), ((σ.set d X).set b Y).set d Z = (σ.set b Y).set d Z := fun X Y Z => by rw [set_swap (Ne.symm hbd), ASt.set_set]
  rw [ASt.set_set]
  by_cases c1 : 12000 ≤ u
  · have c1' : (12000 : Int) ≤ u := by omega
    rw [if_pos (.inl c1)] at hq
    subst hq
    simp (disch := first | assumption | omega | (simp only [List.length_append, List.length_cons, List.length_nil]; omega)) only [go_sem, reduceCtorEq, Nat.reduceEqDiff, Nat.reduceAdd, Nat.reduceSub, Nat.reduceMul, Nat.reduceLeDiff, Int.reduceLT, Int.reduceLE, Int.reduceEq, ↓reduceIte, Int.reduceNeg, Int.reduceAdd, Int.reduceSub, Int.reduceMul, true_imp_iff, forall_const, Nat.mul_one, Int.reduceToNat, Nat.reducePow, Int.reducePow, Bool.true_and, Bool.false_and, Bool.and_false, c1', hsw2]
    exact retC_by (hdd _ _) (.refl _) ⟨rfl, rfl⟩
  have c1' : ¬ (12000 : Int) ≤ u := by omega
  by_cases c2 : 700 ≤ v
  · have c2' : (700 : Int) ≤ v := by omega
    rw [if_pos (.inr c2)] at hq
    subst hq
    simp (disch := first | assumption | omega | (simp only [List.length_append, List.length_cons, List.length_nil]; omega)) only [go_sem, reduceCtorEq, Nat.reduceEqDiff, Nat.reduceAdd, Nat.reduceSub, Nat.reduceMul, Nat.reduceLeDiff, Int.reduceLT, Int.reduceLE, Int.reduceEq, ↓reduceIte, Int.reduceNeg, Int.reduceAdd, Int.reduceSub, Int.reduceMul, true_imp_iff, forall_const, Nat.mul_one, Int.reduceToNat, Nat.reducePow, Int.reducePow, Bool.true_and, Bool.false_and, Bool.and_false, c1', c2', hsw2]
    exact retC_by (hdd _ _) (.refl _) ⟨rfl, rfl⟩
  have c2' : ¬ (700 : Int) ≤ v := by omega
  rw [if_neg (by omega)] at hq
  subst hq
  have k0 := bit0 (u := u) (by omega)
  have k1 := bit1 (u := u) (by omega)
  have d0 : decide (((u % 2 : Nat) : Int) = 1) = decide (u % 2 = 1) := decide_eq_decide.2 (by omega)
  have d1 : decide (((u / 2 % 2 * 2 : Nat) : Int) = 2) = decide (u / 2 % 2 = 1) := decide_eq_decide.2 (by omega)
  have w : IntKind.wrap .i64 (IntKind.wrap .u64 ((u : Int).tdiv 4)) = ((u / 4 : Nat) : Int) := by
    rw [Int.tdiv_eq_ediv_of_nonneg (by omega), IntKind.wrap_u64, IntKind.wrap_i64]; omega
  simp (disch := first | assumption | omega | (simp only [List.length_append, List.length_cons, List.length_nil]; omega)) only [go_sem, reduceCtorEq, Nat.reduceEqDiff, Nat.reduceAdd, Nat.reduceSub, Nat.reduceMul, Nat.reduceLeDiff, Int.reduceLT, Int.reduceLE, Int.reduceEq, ↓reduceIte, Int.reduceNeg, Int.reduceAdd, Int.reduceSub, Int.reduceMul, true_imp_iff, forall_const, Nat.mul_one, Int.reduceToNat, Nat.reducePow, Int.reducePow, Bool.true_and, Bool.false_and, Bool.and_false, c1', c2', hsw2]
  refine retC_by (hdd _ _) (.refl _) ⟨?_, rfl⟩
  have E : AV.tuple [AV.agg [AV.int .i64 (IntKind.wrap .i64 (IntKind.wrap .u64 ((u : Int).tdiv 4))), .int .i64 (v : Int), .bool (decide (((BitVec.ofInt 64 (u : Int) &&& BitVec.ofInt 64 1).toNat : Int) = 1)), .bool (decide (((BitVec.ofInt 64 (u : Int) &&& BitVec.ofInt 64 2).toNat : Int) = 2))], .bool true]
      = AV.tuple [refAV ⟨(u / 4 : Nat), (v : Nat), decide (u % 2 = 1), decide (u / 2 % 2 = 1)⟩, .bool true] := by
    rw [k0, k1, w, d0, d1]
    rfl
  exact E
theorem refR_facts (s : List UInt8) (p : Nat) (e : Int) (hp : p ≤ s.length) : (refR s p e).2.1 ≤ s.length := by
  obtain ⟨_, f2, _⟩ := readU_facts s p e hp
  obtain ⟨_, g2, _⟩ := readU_facts s (readU s p e).2.1 (readU s p e).2.2 f2
  exact g2
theorem rtxP_facts (s : List UInt8) (p : Nat) (most : Nat) (hp : p ≤ s.length) : (rtxP s p 0 most).2.1 ≤ s.length ∧ (rtxP s p 0 most).1.length ≤ most := by
  obtain ⟨_, f2, _⟩ := readU_facts s p 0 hp
  unfold rtxP
  repeat' split
  all_goals
    refine ⟨by dsimp only; omega, ?_⟩
    simp only [List.length_nil, List.length_take]
    omega
theorem whole_any {a : Int} (h1 : -9223372036854775808 ≤ a) (h2 : a ≤ 9223372036854775807) : Pure Tryz.prog 50 [.int .i64 a] (.int .i64 (a.tdiv 10000)) := by
  intro σ
  have hqb : (a.tdiv 10000).natAbs = a.natAbs / 10000 := Int.natAbs_tdiv _ _
  have hw : IntKind.wrap .i64 (a.tdiv 10000) = a.tdiv 10000 := by
    rw [IntKind.wrap_i64]; omega
  refine a50 (by simp) ?_
  simp (disch := first | assumption | omega | (simp only [List.length_append, List.length_cons, List.length_nil]; omega)) only [go_sem, reduceCtorEq, Nat.reduceEqDiff, Nat.reduceAdd, Nat.reduceSub, Nat.reduceMul, Nat.reduceLeDiff, Int.reduceLT, Int.reduceLE, Int.reduceEq, ↓reduceIte, Int.reduceNeg, Int.reduceAdd, Int.reduceSub, Int.reduceMul, true_imp_iff, forall_const, Nat.mul_one, Int.reduceToNat, Nat.reducePow, Int.reducePow, Bool.true_and, Bool.false_and, Bool.and_false, hw]
  exact retC_by (Drop.refl _) (.refl _) ⟨rfl, rfl⟩
theorem failure_any (op n : Int) (s : List UInt8) (a b : Ref) (kids : List Nd) (g1 : -9223372036854775808 ≤ n) (g2 : n ≤ 9223372036854775807) : Pure Tryz.prog 25 [(Nd.mk op n s a b kids).av] (.str (failT op n)) := by
  intro σ
  have hW := whole_any g1 g2
  have hE := tenames_ok
  obtain ⟨q, hq⟩ : ∃ q, failT op n = q := ⟨_, rfl⟩
  rw [hq]
  unfold failT at hq
  rw [Nd.av_cs]
  generalize n.tdiv 10000 = i at *
  refine a25 (by simp) ?_
  simp (disch := first | assumption | omega | (simp only [List.length_append, List.length_cons, List.length_nil]; omega)) only [go_sem, reduceCtorEq, Nat.reduceEqDiff, Nat.reduceAdd, Nat.reduceSub, Nat.reduceMul, Nat.reduceLeDiff, Int.reduceLT, Int.reduceLE, Int.reduceEq, ↓reduceIte, Int.reduceNeg, Int.reduceAdd, Int.reduceSub, Int.reduceMul, true_imp_iff, forall_const, Nat.mul_one, Int.reduceToNat, Nat.reducePow, Int.reducePow, Bool.true_and, Bool.false_and, Bool.and_false]
  refine boxC_by rfl fun c hc => ?_
  simp (disch := first | assumption | omega | (simp only [List.length_append, List.length_cons, List.length_nil]; omega)) only [go_sem, reduceCtorEq, Nat.reduceEqDiff, Nat.reduceAdd, Nat.reduceSub, Nat.reduceMul, Nat.reduceLeDiff, Int.reduceLT, Int.reduceLE, Int.reduceEq, ↓reduceIte, Int.reduceNeg, Int.reduceAdd, Int.reduceSub, Int.reduceMul, true_imp_iff, forall_const, Nat.mul_one, Int.reduceToNat, Nat.reducePow, Int.reducePow, Bool.true_and, Bool.false_and, Bool.and_false]
  refine hW.use ?_
  by_cases h4 : op = 4
  · by_cases h2 : i < 1
    · rw [if_pos (.inr (.inl h2))] at hq
      subst hq
      simp (disch := first | assumption | omega | (simp only [List.length_append, List.length_cons, List.length_nil]; omega)) only [go_sem, reduceCtorEq, Nat.reduceEqDiff, Nat.reduceAdd, Nat.reduceSub, Nat.reduceMul, Nat.reduceLeDiff, Int.reduceLT, Int.reduceLE, Int.reduceEq, ↓reduceIte, Int.reduceNeg, Int.reduceAdd, Int.reduceSub, Int.reduceMul, true_imp_iff, forall_const, Nat.mul_one, Int.reduceToNat, Nat.reducePow, Int.reducePow, Bool.true_and, Bool.false_and, Bool.and_false, h4, h2]
      exact retC_by (by repeat' (first | exact Drop.refl _ | with_reducible refine Drop.off ?_ (by assumption))) (.refl _) ⟨rfl, rfl⟩
    · by_cases h3 : 7 < i
      · rw [if_pos (.inr (.inr h3))] at hq
        subst hq
        simp (disch := first | assumption | omega | (simp only [List.length_append, List.length_cons, List.length_nil]; omega)) only [go_sem, reduceCtorEq, Nat.reduceEqDiff, Nat.reduceAdd, Nat.reduceSub, Nat.reduceMul, Nat.reduceLeDiff, Int.reduceLT, Int.reduceLE, Int.reduceEq, ↓reduceIte, Int.reduceNeg, Int.reduceAdd, Int.reduceSub, Int.reduceMul, true_imp_iff, forall_const, Nat.mul_one, Int.reduceToNat, Nat.reducePow, Int.reducePow, Bool.true_and, Bool.false_and, Bool.and_false, h4, h2]
        refine hE.use ?_
        unfold errL
        simp (disch := first | assumption | omega | (simp only [List.length_append, List.length_cons, List.length_nil]; omega)) only [go_sem, reduceCtorEq, Nat.reduceEqDiff, Nat.reduceAdd, Nat.reduceSub, Nat.reduceMul, Nat.reduceLeDiff, Int.reduceLT, Int.reduceLE, Int.reduceEq, ↓reduceIte, Int.reduceNeg, Int.reduceAdd, Int.reduceSub, Int.reduceMul, true_imp_iff, forall_const, Nat.mul_one, Int.reduceToNat, Nat.reducePow, Int.reducePow, Bool.true_and, Bool.false_and, Bool.and_false, h3]
        exact retC_by (by repeat' (first | exact Drop.refl _ | with_reducible refine Drop.off ?_ (by assumption))) (.refl _) ⟨rfl, rfl⟩
      · rw [if_neg (by omega)] at hq
        have hc : i = 1 ∨ i = 2 ∨ i = 3 ∨ i = 4 ∨ i = 5 ∨ i = 6 ∨ i = 7 := by omega
        subst hq
        rcases hc with rfl | rfl | rfl | rfl | rfl | rfl | rfl
        all_goals
          simp (disch := first | assumption | omega | (simp only [List.length_append, List.length_cons, List.length_nil]; omega)) only [go_sem, reduceCtorEq, Nat.reduceEqDiff, Nat.reduceAdd, Nat.reduceSub, Nat.reduceMul, Nat.reduceLeDiff, Int.reduceLT, Int.reduceLE, Int.reduceEq, ↓reduceIte, Int.reduceNeg, Int.reduceAdd, Int.reduceSub, Int.reduceMul, true_imp_iff, forall_const, Nat.mul_one, Int.reduceToNat, Nat.reducePow, Int.reducePow, Bool.true_and, Bool.false_and, Bool.and_false, h4]
          refine hE.use ?_
          unfold errL
          simp (disch := first | assumption | omega | (simp only [List.length_append, List.length_cons, List.length_nil]; omega)) only [go_sem, reduceCtorEq, Nat.reduceEqDiff, Nat.reduceAdd, Nat.reduceSub, Nat.reduceMul, Nat.reduceLeDiff, Int.reduceLT, Int.reduceLE, Int.reduceEq, ↓reduceIte, Int.reduceNeg, Int.reduceAdd, Int.reduceSub, Int.reduceMul, true_imp_iff, forall_const, Nat.mul_one, Int.reduceToNat, Nat.reducePow, Int.reducePow, Bool.true_and, Bool.false_and, Bool.and_false, h4]
          refine hE.use ?_
          unfold errL
          simp (disch := first | assumption | omega | (simp only [List.length_append, List.length_cons, List.length_nil]; omega)) only [go_sem, reduceCtorEq, Nat.reduceEqDiff, Nat.reduceAdd, Nat.reduceSub, Nat.reduceMul, Nat.reduceLeDiff, Int.reduceLT, Int.reduceLE, Int.reduceEq, ↓reduceIte, Int.reduceNeg, Int.reduceAdd, Int.reduceSub, Int.reduceMul, true_imp_iff, forall_const, Nat.mul_one, Int.reduceToNat, Nat.reducePow, Int.reducePow, Bool.true_and, Bool.false_and, Bool.and_false]
          exact retC_by (by repeat' (first | exact Drop.refl _ | with_reducible refine Drop.off ?_ (by assumption))) (.refl _) ⟨rfl, rfl⟩
  · rw [if_pos (.inl h4)] at hq
    subst hq
    simp (disch := first | assumption | omega | (simp only [List.length_append, List.length_cons, List.length_nil]; omega)) only [go_sem, reduceCtorEq, Nat.reduceEqDiff, Nat.reduceAdd, Nat.reduceSub, Nat.reduceMul, Nat.reduceLeDiff, Int.reduceLT, Int.reduceLE, Int.reduceEq, ↓reduceIte, Int.reduceNeg, Int.reduceAdd, Int.reduceSub, Int.reduceMul, true_imp_iff, forall_const, Nat.mul_one, Int.reduceToNat, Nat.reducePow, Int.reducePow, Bool.true_and, Bool.false_and, Bool.and_false, h4]
    exact retC_by (by repeat' (first | exact Drop.refl _ | with_reducible refine Drop.off ?_ (by assumption))) (.refl _) ⟨rfl, rfl⟩
def valueP (op n : Int) : Bool := if op = 3 then decide (n = 0) || decide (n = 1) else if op = 4 then decide (n.tmod 10000 = 0) && decide (failT 4 n ≠ []) else decide (0 ≤ n) && decide (n.natAbs ≤ 999999999999999999)
theorem evalue_ok (op n : Int) (s : List UInt8) (a b : Ref) (kids : List Nd) (h1 : -9223372036854775808 ≤ n) (h2 : n ≤ 9223372036854775807) : Pure Tryz.prog 75 [(Nd.mk op n s a b kids).av] (.bool (valueP op n)) := by
  intro σ
  have hF := failure_any op n s a b kids h1 h2
  have hI := isInt_ok n
  have hG := dgood_ok n
  obtain ⟨q, hq⟩ : ∃ q, valueP op n = q := ⟨_, rfl⟩
  rw [hq]
  unfold valueP at hq
  rw [Nd.av_cs] at hF ⊢
  generalize kids.map Nd.av = KL at *
  refine a75 (by simp) ?_
  simp (disch := first | assumption | omega | (simp only [List.length_append, List.length_cons, List.length_nil]; omega)) only [go_sem, reduceCtorEq, Nat.reduceEqDiff, Nat.reduceAdd, Nat.reduceSub, Nat.reduceMul, Nat.reduceLeDiff, Int.reduceLT, Int.reduceLE, Int.reduceEq, ↓reduceIte, Int.reduceNeg, Int.reduceAdd, Int.reduceSub, Int.reduceMul, true_imp_iff, forall_const, Nat.mul_one, Int.reduceToNat, Nat.reducePow, Int.reducePow, Bool.true_and, Bool.false_and, Bool.and_false]
  refine boxC_by rfl fun c hc => ?_
  by_cases h3 : op = 3
  · rw [if_pos h3] at hq
    subst hq
    by_cases n0 : n = 0
    · simp (disch := first | assumption | omega | (simp only [List.length_append, List.length_cons, List.length_nil]; omega)) only [go_sem, reduceCtorEq, Nat.reduceEqDiff, Nat.reduceAdd, Nat.reduceSub, Nat.reduceMul, Nat.reduceLeDiff, Int.reduceLT, Int.reduceLE, Int.reduceEq, ↓reduceIte, Int.reduceNeg, Int.reduceAdd, Int.reduceSub, Int.reduceMul, true_imp_iff, forall_const, Nat.mul_one, Int.reduceToNat, Nat.reducePow, Int.reducePow, Bool.true_and, Bool.false_and, Bool.and_false, h3, n0]
      exact retC_by (Drop.set hc) (.refl _) ⟨rfl, rfl⟩
    · by_cases n1 : n = 1
      · simp (disch := first | assumption | omega | (simp only [List.length_append, List.length_cons, List.length_nil]; omega)) only [go_sem, reduceCtorEq, Nat.reduceEqDiff, Nat.reduceAdd, Nat.reduceSub, Nat.reduceMul, Nat.reduceLeDiff, Int.reduceLT, Int.reduceLE, Int.reduceEq, ↓reduceIte, Int.reduceNeg, Int.reduceAdd, Int.reduceSub, Int.reduceMul, true_imp_iff, forall_const, Nat.mul_one, Int.reduceToNat, Nat.reducePow, Int.reducePow, Bool.true_and, Bool.false_and, Bool.and_false, h3, n0, n1]
        exact retC_by (Drop.set hc) (.refl _) ⟨rfl, rfl⟩
      · simp (disch := first | assumption | omega | (simp only [List.length_append, List.length_cons, List.length_nil]; omega)) only [go_sem, reduceCtorEq, Nat.reduceEqDiff, Nat.reduceAdd, Nat.reduceSub, Nat.reduceMul, Nat.reduceLeDiff, Int.reduceLT, Int.reduceLE, Int.reduceEq, ↓reduceIte, Int.reduceNeg, Int.reduceAdd, Int.reduceSub, Int.reduceMul, true_imp_iff, forall_const, Nat.mul_one, Int.reduceToNat, Nat.reducePow, Int.reducePow, Bool.true_and, Bool.false_and, Bool.and_false, h3, n0, n1]
        exact retC_by (Drop.set hc) (.refl _) ⟨by simp [n0, n1, resV_one], rfl⟩
  rw [if_neg h3] at hq
  by_cases h4 : op = 4
  · rw [if_pos h4] at hq
    rw [h4] at hF
    generalize failT 4 n = T at *
    subst hq
    by_cases i0 : n.tmod 10000 = 0
    · rw [decide_eq_true i0] at hI ⊢
      simp (disch := first | assumption | omega | (simp only [List.length_append, List.length_cons, List.length_nil]; omega)) only [go_sem, reduceCtorEq, Nat.reduceEqDiff, Nat.reduceAdd, Nat.reduceSub, Nat.reduceMul, Nat.reduceLeDiff, Int.reduceLT, Int.reduceLE, Int.reduceEq, ↓reduceIte, Int.reduceNeg, Int.reduceAdd, Int.reduceSub, Int.reduceMul, true_imp_iff, forall_const, Nat.mul_one, Int.reduceToNat, Nat.reducePow, Int.reducePow, Bool.true_and, Bool.false_and, Bool.and_false, h3, h4]
      refine hI.use ?_
      simp (disch := first | assumption | omega | (simp only [List.length_append, List.length_cons, List.length_nil]; omega)) only [go_sem, reduceCtorEq, Nat.reduceEqDiff, Nat.reduceAdd, Nat.reduceSub, Nat.reduceMul, Nat.reduceLeDiff, Int.reduceLT, Int.reduceLE, Int.reduceEq, ↓reduceIte, Int.reduceNeg, Int.reduceAdd, Int.reduceSub, Int.reduceMul, true_imp_iff, forall_const, Nat.mul_one, Int.reduceToNat, Nat.reducePow, Int.reducePow, Bool.true_and, Bool.false_and, Bool.and_false]
      refine hF.use ?_
      by_cases t0 : T = []
      · simp (disch := first | assumption | omega | (simp only [List.length_append, List.length_cons, List.length_nil]; omega)) only [go_sem, reduceCtorEq, Nat.reduceEqDiff, Nat.reduceAdd, Nat.reduceSub, Nat.reduceMul, Nat.reduceLeDiff, Int.reduceLT, Int.reduceLE, Int.reduceEq, ↓reduceIte, Int.reduceNeg, Int.reduceAdd, Int.reduceSub, Int.reduceMul, true_imp_iff, forall_const, Nat.mul_one, Int.reduceToNat, Nat.reducePow, Int.reducePow, Bool.true_and, Bool.false_and, Bool.and_false, t0]
        exact retC_by (Drop.set hc) (.refl _) ⟨by simp [t0, resV_one], rfl⟩
      · simp (disch := first | assumption | omega | (simp only [List.length_append, List.length_cons, List.length_nil]; omega)) only [go_sem, reduceCtorEq, Nat.reduceEqDiff, Nat.reduceAdd, Nat.reduceSub, Nat.reduceMul, Nat.reduceLeDiff, Int.reduceLT, Int.reduceLE, Int.reduceEq, ↓reduceIte, Int.reduceNeg, Int.reduceAdd, Int.reduceSub, Int.reduceMul, true_imp_iff, forall_const, Nat.mul_one, Int.reduceToNat, Nat.reducePow, Int.reducePow, Bool.true_and, Bool.false_and, Bool.and_false, t0]
        exact retC_by (Drop.set hc) (.refl _) ⟨by simp [t0, resV_one], rfl⟩
    · rw [decide_eq_false i0] at hI ⊢
      simp (disch := first | assumption | omega | (simp only [List.length_append, List.length_cons, List.length_nil]; omega)) only [go_sem, reduceCtorEq, Nat.reduceEqDiff, Nat.reduceAdd, Nat.reduceSub, Nat.reduceMul, Nat.reduceLeDiff, Int.reduceLT, Int.reduceLE, Int.reduceEq, ↓reduceIte, Int.reduceNeg, Int.reduceAdd, Int.reduceSub, Int.reduceMul, true_imp_iff, forall_const, Nat.mul_one, Int.reduceToNat, Nat.reducePow, Int.reducePow, Bool.true_and, Bool.false_and, Bool.and_false, h3, h4]
      refine hI.use ?_
      simp (disch := first | assumption | omega | (simp only [List.length_append, List.length_cons, List.length_nil]; omega)) only [go_sem, reduceCtorEq, Nat.reduceEqDiff, Nat.reduceAdd, Nat.reduceSub, Nat.reduceMul, Nat.reduceLeDiff, Int.reduceLT, Int.reduceLE, Int.reduceEq, ↓reduceIte, Int.reduceNeg, Int.reduceAdd, Int.reduceSub, Int.reduceMul, true_imp_iff, forall_const, Nat.mul_one, Int.reduceToNat, Nat.reducePow, Int.reducePow, Bool.true_and, Bool.false_and, Bool.and_false]
      exact retC_by (Drop.set hc) (.refl _) ⟨rfl, rfl⟩
  rw [if_neg h4] at hq
  subst hq
  by_cases n0 : 0 ≤ n
  · rw [decide_eq_true n0]
    simp (disch := first | assumption | omega | (simp only [List.length_append, List.length_cons, List.length_nil]; omega)) only [go_sem, reduceCtorEq, Nat.reduceEqDiff, Nat.reduceAdd, Nat.reduceSub, Nat.reduceMul, Nat.reduceLeDiff, Int.reduceLT, Int.reduceLE, Int.reduceEq, ↓reduceIte, Int.reduceNeg, Int.reduceAdd, Int.reduceSub, Int.reduceMul, true_imp_iff, forall_const, Nat.mul_one, Int.reduceToNat, Nat.reducePow, Int.reducePow, Bool.true_and, Bool.false_and, Bool.and_false, h3, h4, n0]
    refine hG.use ?_
    simp (disch := first | assumption | omega | (simp only [List.length_append, List.length_cons, List.length_nil]; omega)) only [go_sem, reduceCtorEq, Nat.reduceEqDiff, Nat.reduceAdd, Nat.reduceSub, Nat.reduceMul, Nat.reduceLeDiff, Int.reduceLT, Int.reduceLE, Int.reduceEq, ↓reduceIte, Int.reduceNeg, Int.reduceAdd, Int.reduceSub, Int.reduceMul, true_imp_iff, forall_const, Nat.mul_one, Int.reduceToNat, Nat.reducePow, Int.reducePow, Bool.true_and, Bool.false_and, Bool.and_false]
    exact retC_by (Drop.set hc) (.refl _) ⟨rfl, rfl⟩
  · rw [decide_eq_false n0]
    simp (disch := first | assumption | omega | (simp only [List.length_append, List.length_cons, List.length_nil]; omega)) only [go_sem, reduceCtorEq, Nat.reduceEqDiff, Nat.reduceAdd, Nat.reduceSub, Nat.reduceMul, Nat.reduceLeDiff, Int.reduceLT, Int.reduceLE, Int.reduceEq, ↓reduceIte, Int.reduceNeg, Int.reduceAdd, Int.reduceSub, Int.reduceMul, true_imp_iff, forall_const, Nat.mul_one, Int.reduceToNat, Nat.reducePow, Int.reducePow, Bool.true_and, Bool.false_and, Bool.and_false, h3, h4, n0]
    exact retC_by (Drop.set hc) (.refl _) ⟨rfl, rfl⟩
theorem ename_ok {σ : ASt} (hU : U8 σ) (s : List UInt8) (hs : s.length ≤ 100000) : ACalls Tryz.prog 79 [.str s] σ fun v σ' => v = .bool (nameOkP s) ∧ σ' = σ := by
  have hL := lex_ok hU s hs
  obtain ⟨q, hq⟩ : ∃ q, nameOkP s = q := ⟨_, rfl⟩
  rw [hq]
  unfold nameOkP at hq
  generalize lexP s = R at *
  obtain ⟨L, j, e⟩ := R
  dsimp only at *
  refine a79 (by simp) ?_
  simp (disch := first | assumption | omega | (simp only [List.length_append, List.length_cons, List.length_nil]; omega)) only [go_sem, reduceCtorEq, Nat.reduceEqDiff, Nat.reduceAdd, Nat.reduceSub, Nat.reduceMul, Nat.reduceLeDiff, Int.reduceLT, Int.reduceLE, Int.reduceEq, ↓reduceIte, Int.reduceNeg, Int.reduceAdd, Int.reduceSub, Int.reduceMul, true_imp_iff, forall_const, Nat.mul_one, Int.reduceToNat, Nat.reducePow, Int.reducePow, Bool.true_and, Bool.false_and, Bool.and_false]
  refine hL.mono ?_
  rintro v σ' ⟨rfl, rfl⟩
  have hl : (L.map tokAV).length = L.length := by simp
  by_cases he : e = 0
  · rw [decide_eq_true he, Bool.true_and] at hq
    by_cases h2 : L.length = 2
    · obtain ⟨t, u, rfl⟩ : ∃ t u, L = [t, u] := by
        match L, h2 with
        | [t, u], _ => exact ⟨t, u, rfl⟩
      dsimp only at hq
      rw [decide_eq_true h2, Bool.true_and] at hq
      obtain ⟨kd, tx, at', col⟩ := t
      obtain ⟨kd2, tx2, at2, col2⟩ := u
      dsimp only at hq
      subst hq
      simp only [List.map_cons, List.map_nil, tokAV]
      by_cases k3 : kd = 3
      · simp (disch := first | assumption | omega | (simp only [List.length_append, List.length_cons, List.length_nil]; omega)) only [go_sem, reduceCtorEq, Nat.reduceEqDiff, Nat.reduceAdd, Nat.reduceSub, Nat.reduceMul, Nat.reduceLeDiff, Int.reduceLT, Int.reduceLE, Int.reduceEq, ↓reduceIte, Int.reduceNeg, Int.reduceAdd, Int.reduceSub, Int.reduceMul, true_imp_iff, forall_const, Nat.mul_one, Int.reduceToNat, Nat.reducePow, Int.reducePow, Bool.true_and, Bool.false_and, Bool.and_false, he, k3]
        exact retC_by (Drop.refl _) (.refl _) ⟨by simp [k3, resV_one], rfl⟩
      · simp (disch := first | assumption | omega | (simp only [List.length_append, List.length_cons, List.length_nil]; omega)) only [go_sem, reduceCtorEq, Nat.reduceEqDiff, Nat.reduceAdd, Nat.reduceSub, Nat.reduceMul, Nat.reduceLeDiff, Int.reduceLT, Int.reduceLE, Int.reduceEq, ↓reduceIte, Int.reduceNeg, Int.reduceAdd, Int.reduceSub, Int.reduceMul, true_imp_iff, forall_const, Nat.mul_one, Int.reduceToNat, Nat.reducePow, Int.reducePow, Bool.true_and, Bool.false_and, Bool.and_false, he, k3]
        exact retC_by (Drop.refl _) (.refl _) ⟨by simp [k3, resV_one], rfl⟩
    · have h2' : ¬ (L.length : Int) = 2 := by omega
      rw [decide_eq_false h2, Bool.false_and] at hq
      subst hq
      generalize L.map tokAV = TL at *
      simp (disch := first | assumption | omega | (simp only [List.length_append, List.length_cons, List.length_nil]; omega)) only [go_sem, reduceCtorEq, Nat.reduceEqDiff, Nat.reduceAdd, Nat.reduceSub, Nat.reduceMul, Nat.reduceLeDiff, Int.reduceLT, Int.reduceLE, Int.reduceEq, ↓reduceIte, Int.reduceNeg, Int.reduceAdd, Int.reduceSub, Int.reduceMul, true_imp_iff, forall_const, Nat.mul_one, Int.reduceToNat, Nat.reducePow, Int.reducePow, Bool.true_and, Bool.false_and, Bool.and_false, he, hl, h2']
      exact retC_by (Drop.refl _) (.refl _) ⟨rfl, rfl⟩
  · rw [decide_eq_false he, Bool.false_and] at hq
    subst hq
    generalize L.map tokAV = TL at *
    simp (disch := first | assumption | omega | (simp only [List.length_append, List.length_cons, List.length_nil]; omega)) only [go_sem, reduceCtorEq, Nat.reduceEqDiff, Nat.reduceAdd, Nat.reduceSub, Nat.reduceMul, Nat.reduceLeDiff, Int.reduceLT, Int.reduceLE, Int.reduceEq, ↓reduceIte, Int.reduceNeg, Int.reduceAdd, Int.reduceSub, Int.reduceMul, true_imp_iff, forall_const, Nat.mul_one, Int.reduceToNat, Nat.reducePow, Int.reducePow, Bool.true_and, Bool.false_and, Bool.and_false, he]
    exact retC_by (Drop.refl _) (.refl _) ⟨rfl, rfl⟩
structure HdR where
  n : Int
  s : List UInt8
  a : Ref
  b : Ref
  cnt : Nat
  ok : Bool
  p : Nat
  e : Int
def headR (s : List UInt8) (op : Int) (p : Nat) : HdR :=
  if op = 1 ∨ op = 3 ∨ op = 4 then ⟨unfI (readU s p 0).1, [], .zero, .zero, 0, valueP op (unfI (readU s p 0).1), (readU s p 0).2.1, (readU s p 0).2.2⟩
  else if op = 2 then ⟨0, (rtxP s p 0 2000).1, .zero, .zero, 0, (sgT (rtxP s p 0 2000).1).isSome, (rtxP s p 0 2000).2.1, (rtxP s p 0 2000).2.2⟩
  else if op = 5 then ⟨0, [], (refR s p 0).1.1, .zero, 0, (refR s p 0).1.2, (refR s p 0).2.1, (refR s p 0).2.2⟩
  else if op = 6 then ⟨0, [], (refR s p 0).1.1, (refR s (refR s p 0).2.1 (refR s p 0).2.2).1.1, 0, (refR s (refR s p 0).2.1 (refR s p 0).2.2).1.2 && (refR s p 0).1.2, (refR s (refR s p 0).2.1 (refR s p 0).2.2).2.1, (refR s (refR s p 0).2.1 (refR s p 0).2.2).2.2⟩
  else if op = 22 then ⟨0, (rtxP s p 0 2000).1, .zero, .zero, min (readU s (rtxP s p 0 2000).2.1 (rtxP s p 0 2000).2.2).1 2001, nameOkP (rtxP s p 0 2000).1 && decide (min (readU s (rtxP s p 0 2000).2.1 (rtxP s p 0 2000).2.2).1 2001 ≤ 2000),
    (readU s (rtxP s p 0 2000).2.1 (rtxP s p 0 2000).2.2).2.1, (readU s (rtxP s p 0 2000).2.1 (rtxP s p 0 2000).2.2).2.2⟩
  else ⟨0, [], .zero, .zero, arity op, true, p, 0⟩
theorem headR_facts (s : List UInt8) (op : Int) (p : Nat) (hp : p ≤ s.length) : (headR s op p).p ≤ s.length ∧ (headR s op p).cnt ≤ 2001 := by
  obtain ⟨_, f2, _⟩ := readU_facts s p 0 hp
  have t1 := (rtxP_facts s p 2000 hp).1
  obtain ⟨_, g2, _⟩ := readU_facts s (rtxP s p 0 2000).2.1 (rtxP s p 0 2000).2.2 t1
  have r1 := refR_facts s p 0 hp
  have r2 := refR_facts s (refR s p 0).2.1 (refR s p 0).2.2 r1
  have ha := arity_le op
  unfold headR
  repeat' split
  all_goals
    refine ⟨by dsimp only; assumption, ?_⟩
    dsimp only
    omega
def zNd : Nd := .mk 0 0 [] .zero .zero []
def kidsR (g : Nat → Nd × Int × Nat × Int) (mk : List Nd → Nd) : Nat → List Nd → Nat → Nd × Int × Nat × Int
  | 0, D, p => (mk D, 0, p, 0)
  | c + 1, D, p => if (g p).2.1 ≠ 0 then (zNd, (g p).2.1, (g p).2.2.1, (g p).2.2.2) else kidsR g mk c (D ++ [(g p).1]) (g p).2.2.1
def treeR (s : List UInt8) : Nat → Nat → Nd × Int × Nat × Int
  | 0, p => (zNd, 12, p, 0)
  | k + 1, p =>
    if (readU s p 0).2.2 ≠ 0 then (zNd, (readU s p 0).2.2, (readU s p 0).2.1, (readU s p 0).2.2)
    else if (readU s p 0).1 < 1 ∨ 23 < (readU s p 0).1 then (zNd, 3, (readU s p 0).2.1, 0)
    else if (headR s ((readU s p 0).1 : Nat) (readU s p 0).2.1).e ≠ 0 then (zNd, (headR s ((readU s p 0).1 : Nat) (readU s p 0).2.1).e, (headR s ((readU s p 0).1 : Nat) (readU s p 0).2.1).p, (headR s ((readU s p 0).1 : Nat) (readU s p 0).2.1).e)
    else if (headR s ((readU s p 0).1 : Nat) (readU s p 0).2.1).ok = false then (zNd, 3, (headR s ((readU s p 0).1 : Nat) (readU s p 0).2.1).p, 0)
    else kidsR (treeR s k) (fun ks => .mk ((readU s p 0).1 : Nat) (headR s ((readU s p 0).1 : Nat) (readU s p 0).2.1).n (headR s ((readU s p 0).1 : Nat) (readU s p 0).2.1).s (headR s ((readU s p 0).1 : Nat) (readU s p 0).2.1).a (headR s ((readU s p 0).1 : Nat) (readU s p 0).2.1).b ks)
      (headR s ((readU s p 0).1 : Nat) (readU s p 0).2.1).cnt [] (headR s ((readU s p 0).1 : Nat) (readU s p 0).2.1).p
theorem kidsR_facts (M : Nat) (g : Nat → Nd × Int × Nat × Int) (mk : List Nd → Nd) (hg : ∀ p, p ≤ M → (g p).2.2.1 ≤ M ∧ ((g p).2.1 = 0 → (g p).2.2.2 = 0)) : ∀ c D p, p ≤ M → (kidsR g mk c D p).2.2.1 ≤ M ∧ ((kidsR g mk c D p).2.1 = 0 → (kidsR g mk c D p).2.2.2 = 0)
  | 0, D, p, hp => ⟨hp, fun _ => rfl⟩
  | c + 1, D, p, hp => by
    rw [kidsR]
    split
    · exact hg p hp
    · exact kidsR_facts M g mk hg c _ _ (hg p hp).1
theorem treeR_facts (s : List UInt8) : ∀ k p, p ≤ s.length → (treeR s k p).2.2.1 ≤ s.length ∧ ((treeR s k p).2.1 = 0 → (treeR s k p).2.2.2 = 0)
  | 0, p, hp => ⟨hp, fun _ => rfl⟩
  | k + 1, p, hp => by
    obtain ⟨_, f2, _⟩ := readU_facts s p 0 hp
    have hh := (headR_facts s ((readU s p 0).1 : Nat) (readU s p 0).2.1 f2).1
    rw [treeR]
    split
    · exact ⟨f2, fun h => h⟩
    split
    · exact ⟨f2, fun _ => rfl⟩
    split
    · exact ⟨hh, fun h => h⟩
    split
    · exact ⟨hh, fun _ => rfl⟩
    exact kidsR_facts _ _ _ (treeR_facts s k) _ _ _ hh
end Go.A
namespace Go.A
open Go.Proofs
/-! 52: tabular/expr.read -/
def c52_0 : ACode := .ops [
    ⟨(some 4), none, .e (.alloc [(.int .i64 0), (.int .i64 0), (.str []), (.int .i64 0), (.int .i64 0), (.bool false), (.bool false), (.int .i64 0), (.int .i64 0), (.bool false), (.bool false), (.sl .full [])]), []⟩,
    ⟨(some 5), none, .q (.mv (.v (.int .i64 0))), []⟩]
def c52_1 : ACode := .ops [
    ⟨(some 13), none, .q (.mv (.t 1)), []⟩,
    ⟨(some 14), none, .q (.bin .gtr (.t 13) (.v (.int .i64 2100))), []⟩]
def c52_2 : ACode := .ops [
    ⟨(some 15), none, .q (.build [(.int .i64 0), (.int .i64 0), (.str []), (.int .i64 0), (.int .i64 0), (.bool false), (.bool false), (.int .i64 0), (.int .i64 0), (.bool false), (.bool false), (.sl .full [])] []), []⟩,
    ⟨none, none, .e (.store 12 (.t 4) (.t 15)), []⟩,
    ⟨(some 5), none, .q (.mv (.v (.int .i64 12))), []⟩]
def c52_3 : ACode := .seq c52_2 .ret
def c52_4 : ACode := .cond (.t 14) c52_3 .skip
def c52_5 : ACode := .seq c52_1 c52_4
def c52_6 : ACode := .ops [
    ⟨(some 16), none, .q (.mv (.t 0)), []⟩,
    ⟨(some 17), none, .e (.call 71 [(.t 16)]), []⟩,
    ⟨(some 6), none, .q (.mv (.t 17)), []⟩]
def c52_7 : ACode := .ops [
    ⟨(some 18), none, .q (.mv (.t 0)), []⟩,
    ⟨(some 19), none, .e (.call 72 [(.t 18)]), []⟩,
    ⟨(some 20), none, .q (.bin .neq (.t 19) (.v (.int .i64 0))), []⟩]
def c52_8 : ACode := .ops [
    ⟨(some 21), none, .q (.build [(.int .i64 0), (.int .i64 0), (.str []), (.int .i64 0), (.int .i64 0), (.bool false), (.bool false), (.int .i64 0), (.int .i64 0), (.bool false), (.bool false), (.sl .full [])] []), []⟩,
    ⟨(some 22), none, .q (.mv (.t 0)), []⟩,
    ⟨(some 23), none, .e (.call 72 [(.t 22)]), []⟩,
    ⟨none, none, .e (.store 12 (.t 4) (.t 21)), []⟩,
    ⟨(some 5), none, .q (.mv (.t 23)), []⟩]
def c52_9 : ACode := .seq c52_8 .ret
def c52_10 : ACode := .cond (.t 20) c52_9 .skip
def c52_11 : ACode := .seq c52_7 c52_10
def c52_12 : ACode := .ops [
    ⟨(some 24), none, .q (.mv (.t 6)), []⟩,
    ⟨(some 25), none, .q (.bin .lss (.t 24) (.v (.int .u64 1))), []⟩,
    ⟨(some 26), none, .q (.mv (.t 25)), []⟩,
    ⟨(some 27), (some (26, false)), .q (.mv (.t 6)), []⟩,
    ⟨(some 28), (some (26, false)), .q (.bin .gtr (.t 27) (.v (.int .u64 23))), []⟩,
    ⟨(some 29), none, .q (.pick (.t 26) (.v (.bool true)) (.t 28)), []⟩]
def c52_13 : ACode := .ops [
    ⟨(some 30), none, .q (.build [(.int .i64 0), (.int .i64 0), (.str []), (.int .i64 0), (.int .i64 0), (.bool false), (.bool false), (.int .i64 0), (.int .i64 0), (.bool false), (.bool false), (.sl .full [])] []), []⟩,
    ⟨none, none, .e (.store 12 (.t 4) (.t 30)), []⟩,
    ⟨(some 5), none, .q (.mv (.v (.int .i64 3))), []⟩]
def c52_14 : ACode := .seq c52_13 .ret
def c52_15 : ACode := .cond (.t 29) c52_14 .skip
def c52_16 : ACode := .seq c52_12 c52_15
def c52_17 : ACode := .ops [
    ⟨(some 31), none, .q (.mv (.t 6)), []⟩,
    ⟨(some 32), none, .q (.conv .i64 (.t 31)), []⟩,
    ⟨(some 33), none, .q (.build [(.int .i64 0), (.int .i64 0), (.str []), (.int .i64 0), (.int .i64 0), (.bool false), (.bool false), (.int .i64 0), (.int .i64 0), (.bool false), (.bool false), (.sl .full [])] [(0, 1, (.t 32))]), []⟩,
    ⟨(some 7), none, .e (.alloc [(.int .i64 0), (.int .i64 0), (.str []), (.int .i64 0), (.int .i64 0), (.bool false), (.bool false), (.int .i64 0), (.int .i64 0), (.bool false), (.bool false), (.sl .full [])]), []⟩,
    ⟨none, none, .e (.store 12 (.t 7) (.t 33)), []⟩]
def c52_18 : ACode := .ops [
    ⟨(some 34), none, .q (.fa 0 (.t 7)), []⟩,
    ⟨(some 35), none, .q (.ld none (.t 34)), []⟩,
    ⟨(some 36), none, .e (.call 73 [(.t 35)]), []⟩,
    ⟨(some 8), none, .q (.mv (.t 36)), []⟩,
    ⟨(some 9), none, .q (.mv (.v (.bool true))), []⟩]
def c52_19 : ACode := .ops [
    ⟨(some 37), none, .q (.fa 0 (.t 7)), []⟩,
    ⟨(some 38), none, .q (.ld none (.t 37)), []⟩]
def c52_20 : ACode := .ops [
    ⟨(some 40), none, .q (.bin .eql (.t 38) (.v (.int .i64 1))), []⟩,
    ⟨(some 39), none, .q (.mv (.t 40)), []⟩]
def c52_21 : ACode := .ops [
    ⟨(some 41), none, .q (.bin .eql (.t 38) (.v (.int .i64 3))), []⟩,
    ⟨(some 39), none, .q (.mv (.t 41)), []⟩]
def c52_22 : ACode := .ops [
    ⟨(some 42), none, .q (.bin .eql (.t 38) (.v (.int .i64 4))), []⟩,
    ⟨(some 39), none, .q (.mv (.t 42)), []⟩]
def c52_23 : ACode := .cond (.t 39) .skip c52_22
def c52_24 : ACode := .seq c52_21 c52_23
def c52_25 : ACode := .cond (.t 39) .skip c52_24
def c52_26 : ACode := .seq c52_20 c52_25
def c52_27 : ACode := .ops [
    ⟨(some 43), none, .q (.mv (.t 0)), []⟩,
    ⟨(some 44), none, .e (.call 74 [(.t 43)]), []⟩,
    ⟨(some 45), none, .q (.fa 1 (.t 7)), []⟩,
    ⟨none, none, .e (.store 1 (.t 45) (.t 44)), []⟩]
def c52_28 : ACode := .ops [
    ⟨(some 46), none, .q (.ld (some 12) (.t 7)), []⟩,
    ⟨(some 47), none, .e (.call 75 [(.t 46)]), []⟩,
    ⟨(some 9), none, .q (.mv (.t 47)), []⟩]
def c52_29 : ACode := .seq c52_27 c52_28
def c52_30 : ACode := .ops [
    ⟨(some 49), none, .q (.bin .eql (.t 38) (.v (.int .i64 2))), []⟩,
    ⟨(some 48), none, .q (.mv (.t 49)), []⟩]
def c52_31 : ACode := .ops [
    ⟨(some 50), none, .q (.mv (.t 0)), []⟩,
    ⟨(some 51), none, .e (.call 76 [(.t 50), (.v (.int .i64 2000))]), []⟩,
    ⟨(some 52), none, .q (.fa 2 (.t 7)), []⟩,
    ⟨none, none, .e (.store 1 (.t 52) (.t 51)), []⟩]
def c52_32 : ACode := .ops [
    ⟨(some 54), none, .q (.fa 2 (.t 7)), []⟩,
    ⟨(some 55), none, .q (.ld none (.t 54)), []⟩,
    ⟨(some 56), none, .e (.call 77 [(.t 55)]), []⟩,
    ⟨(some 53), none, .q (.mv (.t 56)), []⟩,
    ⟨(some 57), none, .q (.ext 0 (.t 53)), []⟩,
    ⟨(some 58), none, .q (.ext 1 (.t 53)), []⟩,
    ⟨(some 9), none, .q (.mv (.t 58)), []⟩]
def c52_33 : ACode := .seq c52_31 c52_32
def c52_34 : ACode := .ops [
    ⟨(some 60), none, .q (.bin .eql (.t 38) (.v (.int .i64 5))), []⟩,
    ⟨(some 59), none, .q (.mv (.t 60)), []⟩]
def c52_35 : ACode := .ops [
    ⟨(some 62), none, .q (.mv (.t 0)), []⟩,
    ⟨(some 63), none, .e (.call 78 [(.t 62)]), []⟩,
    ⟨(some 61), none, .q (.mv (.t 63)), []⟩,
    ⟨(some 64), none, .q (.ext 0 (.t 61)), []⟩,
    ⟨(some 65), none, .q (.ext 1 (.t 61)), []⟩,
    ⟨(some 66), none, .q (.fa 3 (.t 7)), []⟩,
    ⟨none, none, .e (.store 4 (.t 66) (.t 64)), []⟩,
    ⟨(some 9), none, .q (.mv (.t 65)), []⟩]
def c52_36 : ACode := .ops [
    ⟨(some 68), none, .q (.bin .eql (.t 38) (.v (.int .i64 6))), []⟩,
    ⟨(some 67), none, .q (.mv (.t 68)), []⟩]
def c52_37 : ACode := .ops [
    ⟨(some 10), none, .q (.mv (.v (.bool false))), []⟩]
def c52_38 : ACode := .ops [
    ⟨(some 70), none, .q (.mv (.t 0)), []⟩,
    ⟨(some 71), none, .e (.call 78 [(.t 70)]), []⟩,
    ⟨(some 69), none, .q (.mv (.t 71)), []⟩,
    ⟨(some 72), none, .q (.ext 0 (.t 69)), []⟩,
    ⟨(some 73), none, .q (.ext 1 (.t 69)), []⟩,
    ⟨(some 74), none, .q (.fa 3 (.t 7)), []⟩,
    ⟨none, none, .e (.store 4 (.t 74) (.t 72)), []⟩,
    ⟨(some 10), none, .q (.mv (.t 73)), []⟩]
def c52_39 : ACode := .ops [
    ⟨(some 76), none, .q (.mv (.t 0)), []⟩,
    ⟨(some 77), none, .e (.call 78 [(.t 76)]), []⟩,
    ⟨(some 75), none, .q (.mv (.t 77)), []⟩,
    ⟨(some 78), none, .q (.ext 0 (.t 75)), []⟩,
    ⟨(some 79), none, .q (.ext 1 (.t 75)), []⟩,
    ⟨(some 80), none, .q (.fa 7 (.t 7)), []⟩,
    ⟨none, none, .e (.store 4 (.t 80) (.t 78)), []⟩,
    ⟨(some 9), none, .q (.mv (.t 79)), []⟩]
def c52_40 : ACode := .ops [
    ⟨(some 81), none, .q (.mv (.t 9)), []⟩,
    ⟨(some 82), none, .q (.mv (.t 81)), []⟩,
    ⟨(some 83), (some (82, true)), .q (.mv (.t 10)), []⟩,
    ⟨(some 84), none, .q (.pick (.t 82) (.t 83) (.v (.bool false))), []⟩,
    ⟨(some 9), none, .q (.mv (.t 84)), []⟩]
def c52_41 : ACode := .seq c52_39 c52_40
def c52_42 : ACode := .seq c52_38 c52_41
def c52_43 : ACode := .seq c52_37 c52_42
def c52_44 : ACode := .ops [
    ⟨(some 86), none, .q (.bin .eql (.t 38) (.v (.int .i64 22))), []⟩,
    ⟨(some 85), none, .q (.mv (.t 86)), []⟩]
def c52_45 : ACode := .ops [
    ⟨(some 87), none, .q (.mv (.t 0)), []⟩,
    ⟨(some 88), none, .e (.call 76 [(.t 87), (.v (.int .i64 2000))]), []⟩,
    ⟨(some 89), none, .q (.fa 2 (.t 7)), []⟩,
    ⟨none, none, .e (.store 1 (.t 89) (.t 88)), []⟩]
def c52_46 : ACode := .ops [
    ⟨(some 90), none, .q (.mv (.t 0)), []⟩,
    ⟨(some 91), none, .e (.call 71 [(.t 90)]), []⟩,
    ⟨(some 92), none, .q (.mnx false (.t 91) (.v (.int .u64 2001))), []⟩,
    ⟨(some 93), none, .q (.conv .i64 (.t 92)), []⟩,
    ⟨(some 8), none, .q (.mv (.t 93)), []⟩]
def c52_47 : ACode := .ops [
    ⟨(some 94), none, .q (.fa 2 (.t 7)), []⟩,
    ⟨(some 95), none, .q (.ld none (.t 94)), []⟩,
    ⟨(some 96), none, .e (.call 79 [(.t 95)]), []⟩,
    ⟨(some 97), none, .q (.mv (.t 96)), []⟩,
    ⟨(some 98), (some (97, true)), .q (.mv (.t 8)), []⟩,
    ⟨(some 99), (some (97, true)), .q (.bin .leq (.t 98) (.v (.int .i64 2000))), []⟩,
    ⟨(some 100), none, .q (.pick (.t 97) (.t 99) (.v (.bool false))), []⟩,
    ⟨(some 9), none, .q (.mv (.t 100)), []⟩]
def c52_48 : ACode := .seq c52_46 c52_47
def c52_49 : ACode := .seq c52_45 c52_48
def c52_50 : ACode := .cond (.t 85) c52_49 .skip
def c52_51 : ACode := .seq c52_44 c52_50
def c52_52 : ACode := .cond (.t 67) c52_43 c52_51
def c52_53 : ACode := .seq c52_36 c52_52
def c52_54 : ACode := .cond (.t 59) c52_35 c52_53
def c52_55 : ACode := .seq c52_34 c52_54
def c52_56 : ACode := .cond (.t 48) c52_33 c52_55
def c52_57 : ACode := .seq c52_30 c52_56
def c52_58 : ACode := .cond (.t 39) c52_29 c52_57
def c52_59 : ACode := .seq c52_26 c52_58
def c52_60 : ACode := .block 0 c52_59
def c52_61 : ACode := .seq c52_19 c52_60
def c52_62 : ACode := .ops [
    ⟨(some 101), none, .q (.mv (.t 0)), []⟩,
    ⟨(some 102), none, .e (.call 72 [(.t 101)]), []⟩,
    ⟨(some 103), none, .q (.bin .neq (.t 102) (.v (.int .i64 0))), []⟩]
def c52_63 : ACode := .ops [
    ⟨(some 104), none, .q (.build [(.int .i64 0), (.int .i64 0), (.str []), (.int .i64 0), (.int .i64 0), (.bool false), (.bool false), (.int .i64 0), (.int .i64 0), (.bool false), (.bool false), (.sl .full [])] []), []⟩,
    ⟨(some 105), none, .q (.mv (.t 0)), []⟩,
    ⟨(some 106), none, .e (.call 72 [(.t 105)]), []⟩,
    ⟨none, none, .e (.store 12 (.t 4) (.t 104)), []⟩,
    ⟨(some 5), none, .q (.mv (.t 106)), []⟩]
def c52_64 : ACode := .seq c52_63 .ret
def c52_65 : ACode := .cond (.t 103) c52_64 .skip
def c52_66 : ACode := .seq c52_62 c52_65
def c52_67 : ACode := .ops [
    ⟨(some 107), none, .q (.mv (.t 9)), []⟩,
    ⟨(some 108), none, .q (.un .not (.t 107)), []⟩]
def c52_68 : ACode := .ops [
    ⟨(some 109), none, .q (.build [(.int .i64 0), (.int .i64 0), (.str []), (.int .i64 0), (.int .i64 0), (.bool false), (.bool false), (.int .i64 0), (.int .i64 0), (.bool false), (.bool false), (.sl .full [])] []), []⟩,
    ⟨none, none, .e (.store 12 (.t 4) (.t 109)), []⟩,
    ⟨(some 5), none, .q (.mv (.v (.int .i64 3))), []⟩]
def c52_69 : ACode := .seq c52_68 .ret
def c52_70 : ACode := .cond (.t 108) c52_69 .skip
def c52_71 : ACode := .seq c52_67 c52_70
def c52_72 : ACode := .ops [
    ⟨(some 110), none, .q (.mv (.t 8)), []⟩,
    ⟨(some 111), none, .q (.mv (.v (.int .i64 0))), []⟩]
def c52_73 : ACode := .ops [
    ⟨(some 112), none, .q (.bin .lss (.t 111) (.t 110)), []⟩]
def c52_74 : ACode := .cond (.t 112) .skip (.exit 1)
def c52_75 : ACode := .ops [
    ⟨(some 114), none, .q (.mv (.t 0)), []⟩,
    ⟨(some 115), none, .q (.mv (.t 1)), []⟩,
    ⟨(some 116), none, .q (.bin .add (.t 115) (.v (.int .i64 1))), []⟩,
    ⟨(some 117), none, .e (.call 52 [(.t 114), (.t 116)]), []⟩,
    ⟨(some 113), none, .q (.mv (.t 117)), []⟩,
    ⟨(some 118), none, .q (.ext 0 (.t 113)), []⟩,
    ⟨(some 119), none, .q (.ext 1 (.t 113)), []⟩,
    ⟨(some 11), none, .e (.alloc [(.int .i64 0), (.int .i64 0), (.str []), (.int .i64 0), (.int .i64 0), (.bool false), (.bool false), (.int .i64 0), (.int .i64 0), (.bool false), (.bool false), (.sl .full [])]), []⟩,
    ⟨none, none, .e (.store 12 (.t 11) (.t 118)), []⟩,
    ⟨(some 12), none, .q (.mv (.t 119)), []⟩]
def c52_76 : ACode := .ops [
    ⟨(some 120), none, .q (.mv (.t 12)), []⟩,
    ⟨(some 121), none, .q (.bin .neq (.t 120) (.v (.int .i64 0))), []⟩]
def c52_77 : ACode := .ops [
    ⟨(some 122), none, .q (.build [(.int .i64 0), (.int .i64 0), (.str []), (.int .i64 0), (.int .i64 0), (.bool false), (.bool false), (.int .i64 0), (.int .i64 0), (.bool false), (.bool false), (.sl .full [])] []), []⟩,
    ⟨(some 123), none, .q (.mv (.t 12)), []⟩,
    ⟨none, none, .e (.store 12 (.t 4) (.t 122)), []⟩,
    ⟨(some 5), none, .q (.mv (.t 123)), []⟩]
def c52_78 : ACode := .seq c52_77 .ret
def c52_79 : ACode := .cond (.t 121) c52_78 .skip
def c52_80 : ACode := .seq c52_76 c52_79
def c52_81 : ACode := .ops [
    ⟨(some 124), none, .q (.fa 11 (.t 7)), []⟩,
    ⟨(some 125), none, .q (.ld none (.t 124)), []⟩,
    ⟨(some 126), none, .q (.ld (some 12) (.t 11)), []⟩,
    ⟨(some 127), none, .q (.bsl 12 [(.t 126)]), []⟩,
    ⟨(some 128), none, .e (.app 28 12 104 [(.int .i64 0), (.int .i64 0), (.str []), (.int .i64 0), (.int .i64 0), (.bool false), (.bool false), (.int .i64 0), (.int .i64 0), (.bool false), (.bool false), (.sl .full [])] (.t 125) (.t 127)), []⟩,
    ⟨(some 129), none, .q (.fa 11 (.t 7)), []⟩,
    ⟨none, none, .e (.store 1 (.t 129) (.t 128)), []⟩]
def c52_82 : ACode := .seq c52_80 c52_81
def c52_83 : ACode := .seq c52_75 c52_82
def c52_84 : ACode := .block 2 c52_83
def c52_85 : ACode := .ops [
    ⟨(some 130), none, .q (.bin .add (.t 111) (.v (.int .i64 1))), []⟩,
    ⟨(some 111), none, .q (.mv (.t 130)), []⟩]
def c52_86 : ACode := .seq c52_84 c52_85
def c52_87 : ACode := .seq c52_74 c52_86
def c52_88 : ACode := .seq c52_73 c52_87
def c52_89 : ACode := .loop c52_88
def c52_90 : ACode := .block 1 c52_89
def c52_91 : ACode := .seq c52_72 c52_90
def c52_92 : ACode := .ops [
    ⟨(some 131), none, .q (.ld (some 12) (.t 7)), []⟩,
    ⟨none, none, .e (.store 12 (.t 4) (.t 131)), []⟩,
    ⟨(some 5), none, .q (.mv (.v (.int .i64 0))), []⟩]
def c52_93 : ACode := .seq c52_92 .ret
def c52_94 : ACode := .seq c52_91 c52_93
def c52_95 : ACode := .seq c52_71 c52_94
def c52_96 : ACode := .seq c52_66 c52_95
def c52_97 : ACode := .seq c52_61 c52_96
def c52_98 : ACode := .seq c52_18 c52_97
def c52_99 : ACode := .seq c52_17 c52_98
def c52_100 : ACode := .seq c52_16 c52_99
def c52_101 : ACode := .seq c52_11 c52_100
def c52_102 : ACode := .seq c52_6 c52_101
def c52_103 : ACode := .seq c52_5 c52_102
def c52_104 : ACode := .seq c52_0 c52_103
@[go_sem] theorem c52_0_wp : type_of% (wp_of c52_0.eq_1) := wp_of c52_0.eq_1
@[go_sem] theorem c52_1_wp : type_of% (wp_of c52_1.eq_1) := wp_of c52_1.eq_1
@[go_sem] theorem c52_2_wp : type_of% (wp_of c52_2.eq_1) := wp_of c52_2.eq_1
@[go_sem] theorem c52_3_wp : type_of% (wp_of c52_3.eq_1) := wp_of c52_3.eq_1
@[go_sem] theorem c52_4_wp : type_of% (wp_of c52_4.eq_1) := wp_of c52_4.eq_1
@[go_sem] theorem c52_5_wp : type_of% (wp_of c52_5.eq_1) := wp_of c52_5.eq_1
@[go_sem] theorem c52_6_wp : type_of% (wp_of c52_6.eq_1) := wp_of c52_6.eq_1
@[go_sem] theorem c52_7_wp : type_of% (wp_of c52_7.eq_1) := wp_of c52_7.eq_1
@[go_sem] theorem c52_8_wp : type_of% (wp_of c52_8.eq_1) := wp_of c52_8.eq_1
@[go_sem] theorem c52_9_wp : type_of% (wp_of c52_9.eq_1) := wp_of c52_9.eq_1
@[go_sem] theorem c52_10_wp : type_of% (wp_of c52_10.eq_1) := wp_of c52_10.eq_1
@[go_sem] theorem c52_11_wp : type_of% (wp_of c52_11.eq_1) := wp_of c52_11.eq_1
@[go_sem] theorem c52_12_wp : type_of% (wp_of c52_12.eq_1) := wp_of c52_12.eq_1
@[go_sem] theorem c52_13_wp : type_of% (wp_of c52_13.eq_1) := wp_of c52_13.eq_1
@[go_sem] theorem c52_14_wp : type_of% (wp_of c52_14.eq_1) := wp_of c52_14.eq_1
@[go_sem] theorem c52_15_wp : type_of% (wp_of c52_15.eq_1) := wp_of c52_15.eq_1
@[go_sem] theorem c52_16_wp : type_of% (wp_of c52_16.eq_1) := wp_of c52_16.eq_1
@[go_sem] theorem c52_17_wp : type_of% (wp_of c52_17.eq_1) := wp_of c52_17.eq_1
@[go_sem] theorem c52_18_wp : type_of% (wp_of c52_18.eq_1) := wp_of c52_18.eq_1
@[go_sem] theorem c52_19_wp : type_of% (wp_of c52_19.eq_1) := wp_of c52_19.eq_1
@[go_sem] theorem c52_20_wp : type_of% (wp_of c52_20.eq_1) := wp_of c52_20.eq_1
@[go_sem] theorem c52_21_wp : type_of% (wp_of c52_21.eq_1) := wp_of c52_21.eq_1
@[go_sem] theorem c52_22_wp : type_of% (wp_of c52_22.eq_1) := wp_of c52_22.eq_1
@[go_sem] theorem c52_23_wp : type_of% (wp_of c52_23.eq_1) := wp_of c52_23.eq_1
@[go_sem] theorem c52_24_wp : type_of% (wp_of c52_24.eq_1) := wp_of c52_24.eq_1
@[go_sem] theorem c52_25_wp : type_of% (wp_of c52_25.eq_1) := wp_of c52_25.eq_1
@[go_sem] theorem c52_26_wp : type_of% (wp_of c52_26.eq_1) := wp_of c52_26.eq_1
@[go_sem] theorem c52_27_wp : type_of% (wp_of c52_27.eq_1) := wp_of c52_27.eq_1
@[go_sem] theorem c52_28_wp : type_of% (wp_of c52_28.eq_1) := wp_of c52_28.eq_1
@[go_sem] theorem c52_29_wp : type_of% (wp_of c52_29.eq_1) := wp_of c52_29.eq_1
@[go_sem] theorem c52_30_wp : type_of% (wp_of c52_30.eq_1) := wp_of c52_30.eq_1
@[go_sem] theorem c52_31_wp : type_of% (wp_of c52_31.eq_1) := wp_of c52_31.eq_1
@[go_sem] theorem c52_32_wp : type_of% (wp_of c52_32.eq_1) := wp_of c52_32.eq_1
@[go_sem] theorem c52_33_wp : type_of% (wp_of c52_33.eq_1) := wp_of c52_33.eq_1
@[go_sem] theorem c52_34_wp : type_of% (wp_of c52_34.eq_1) := wp_of c52_34.eq_1
@[go_sem] theorem c52_35_wp : type_of% (wp_of c52_35.eq_1) := wp_of c52_35.eq_1
@[go_sem] theorem c52_36_wp : type_of% (wp_of c52_36.eq_1) := wp_of c52_36.eq_1
@[go_sem] theorem c52_37_wp : type_of% (wp_of c52_37.eq_1) := wp_of c52_37.eq_1
@[go_sem] theorem c52_38_wp : type_of% (wp_of c52_38.eq_1) := wp_of c52_38.eq_1
@[go_sem] theorem c52_39_wp : type_of% (wp_of c52_39.eq_1) := wp_of c52_39.eq_1
@[go_sem] theorem c52_40_wp : type_of% (wp_of c52_40.eq_1) := wp_of c52_40.eq_1
@[go_sem] theorem c52_41_wp : type_of% (wp_of c52_41.eq_1) := wp_of c52_41.eq_1
@[go_sem] theorem c52_42_wp : type_of% (wp_of c52_42.eq_1) := wp_of c52_42.eq_1
@[go_sem] theorem c52_43_wp : type_of% (wp_of c52_43.eq_1) := wp_of c52_43.eq_1
@[go_sem] theorem c52_44_wp : type_of% (wp_of c52_44.eq_1) := wp_of c52_44.eq_1
@[go_sem] theorem c52_45_wp : type_of% (wp_of c52_45.eq_1) := wp_of c52_45.eq_1
@[go_sem] theorem c52_46_wp : type_of% (wp_of c52_46.eq_1) := wp_of c52_46.eq_1
@[go_sem] theorem c52_47_wp : type_of% (wp_of c52_47.eq_1) := wp_of c52_47.eq_1
@[go_sem] theorem c52_48_wp : type_of% (wp_of c52_48.eq_1) := wp_of c52_48.eq_1
@[go_sem] theorem c52_49_wp : type_of% (wp_of c52_49.eq_1) := wp_of c52_49.eq_1
@[go_sem] theorem c52_50_wp : type_of% (wp_of c52_50.eq_1) := wp_of c52_50.eq_1
@[go_sem] theorem c52_51_wp : type_of% (wp_of c52_51.eq_1) := wp_of c52_51.eq_1
@[go_sem] theorem c52_52_wp : type_of% (wp_of c52_52.eq_1) := wp_of c52_52.eq_1
@[go_sem] theorem c52_53_wp : type_of% (wp_of c52_53.eq_1) := wp_of c52_53.eq_1
@[go_sem] theorem c52_54_wp : type_of% (wp_of c52_54.eq_1) := wp_of c52_54.eq_1
@[go_sem] theorem c52_55_wp : type_of% (wp_of c52_55.eq_1) := wp_of c52_55.eq_1
@[go_sem] theorem c52_56_wp : type_of% (wp_of c52_56.eq_1) := wp_of c52_56.eq_1
@[go_sem] theorem c52_57_wp : type_of% (wp_of c52_57.eq_1) := wp_of c52_57.eq_1
@[go_sem] theorem c52_58_wp : type_of% (wp_of c52_58.eq_1) := wp_of c52_58.eq_1
@[go_sem] theorem c52_59_wp : type_of% (wp_of c52_59.eq_1) := wp_of c52_59.eq_1
@[go_sem] theorem c52_60_wp : type_of% (wp_of c52_60.eq_1) := wp_of c52_60.eq_1
@[go_sem] theorem c52_61_wp : type_of% (wp_of c52_61.eq_1) := wp_of c52_61.eq_1
@[go_sem] theorem c52_62_wp : type_of% (wp_of c52_62.eq_1) := wp_of c52_62.eq_1
@[go_sem] theorem c52_63_wp : type_of% (wp_of c52_63.eq_1) := wp_of c52_63.eq_1
@[go_sem] theorem c52_64_wp : type_of% (wp_of c52_64.eq_1) := wp_of c52_64.eq_1
@[go_sem] theorem c52_65_wp : type_of% (wp_of c52_65.eq_1) := wp_of c52_65.eq_1
@[go_sem] theorem c52_66_wp : type_of% (wp_of c52_66.eq_1) := wp_of c52_66.eq_1
@[go_sem] theorem c52_67_wp : type_of% (wp_of c52_67.eq_1) := wp_of c52_67.eq_1
@[go_sem] theorem c52_68_wp : type_of% (wp_of c52_68.eq_1) := wp_of c52_68.eq_1
@[go_sem] theorem c52_69_wp : type_of% (wp_of c52_69.eq_1) := wp_of c52_69.eq_1
@[go_sem] theorem c52_70_wp : type_of% (wp_of c52_70.eq_1) := wp_of c52_70.eq_1
@[go_sem] theorem c52_71_wp : type_of% (wp_of c52_71.eq_1) := wp_of c52_71.eq_1
@[go_sem] theorem c52_72_wp : type_of% (wp_of c52_72.eq_1) := wp_of c52_72.eq_1
@[go_sem] theorem c52_73_wp : type_of% (wp_of c52_73.eq_1) := wp_of c52_73.eq_1
@[go_sem] theorem c52_74_wp : type_of% (wp_of c52_74.eq_1) := wp_of c52_74.eq_1
@[go_sem] theorem c52_75_wp : type_of% (wp_of c52_75.eq_1) := wp_of c52_75.eq_1
@[go_sem] theorem c52_76_wp : type_of% (wp_of c52_76.eq_1) := wp_of c52_76.eq_1
@[go_sem] theorem c52_77_wp : type_of% (wp_of c52_77.eq_1) := wp_of c52_77.eq_1
@[go_sem] theorem c52_78_wp : type_of% (wp_of c52_78.eq_1) := wp_of c52_78.eq_1
@[go_sem] theorem c52_79_wp : type_of% (wp_of c52_79.eq_1) := wp_of c52_79.eq_1
@[go_sem] theorem c52_80_wp : type_of% (wp_of c52_80.eq_1) := wp_of c52_80.eq_1
@[go_sem] theorem c52_81_wp : type_of% (wp_of c52_81.eq_1) := wp_of c52_81.eq_1
@[go_sem] theorem c52_82_wp : type_of% (wp_of c52_82.eq_1) := wp_of c52_82.eq_1
@[go_sem] theorem c52_83_wp : type_of% (wp_of c52_83.eq_1) := wp_of c52_83.eq_1
@[go_sem] theorem c52_84_wp : type_of% (wp_of c52_84.eq_1) := wp_of c52_84.eq_1
@[go_sem] theorem c52_85_wp : type_of% (wp_of c52_85.eq_1) := wp_of c52_85.eq_1
@[go_sem] theorem c52_86_wp : type_of% (wp_of c52_86.eq_1) := wp_of c52_86.eq_1
@[go_sem] theorem c52_87_wp : type_of% (wp_of c52_87.eq_1) := wp_of c52_87.eq_1
@[go_sem] theorem c52_88_wp : type_of% (wp_of c52_88.eq_1) := wp_of c52_88.eq_1
@[go_sem] theorem c52_89_wp : type_of% (wp_of c52_89.eq_1) := wp_of c52_89.eq_1
@[go_sem] theorem c52_90_wp : type_of% (wp_of c52_90.eq_1) := wp_of c52_90.eq_1
@[go_sem] theorem c52_91_wp : type_of% (wp_of c52_91.eq_1) := wp_of c52_91.eq_1
@[go_sem] theorem c52_92_wp : type_of% (wp_of c52_92.eq_1) := wp_of c52_92.eq_1
@[go_sem] theorem c52_93_wp : type_of% (wp_of c52_93.eq_1) := wp_of c52_93.eq_1
@[go_sem] theorem c52_94_wp : type_of% (wp_of c52_94.eq_1) := wp_of c52_94.eq_1
@[go_sem] theorem c52_95_wp : type_of% (wp_of c52_95.eq_1) := wp_of c52_95.eq_1
@[go_sem] theorem c52_96_wp : type_of% (wp_of c52_96.eq_1) := wp_of c52_96.eq_1
@[go_sem] theorem c52_97_wp : type_of% (wp_of c52_97.eq_1) := wp_of c52_97.eq_1
@[go_sem] theorem c52_98_wp : type_of% (wp_of c52_98.eq_1) := wp_of c52_98.eq_1
@[go_sem] theorem c52_99_wp : type_of% (wp_of c52_99.eq_1) := wp_of c52_99.eq_1
@[go_sem] theorem c52_100_wp : type_of% (wp_of c52_100.eq_1) := wp_of c52_100.eq_1
@[go_sem] theorem c52_101_wp : type_of% (wp_of c52_101.eq_1) := wp_of c52_101.eq_1
@[go_sem] theorem c52_102_wp : type_of% (wp_of c52_102.eq_1) := wp_of c52_102.eq_1
@[go_sem] theorem c52_103_wp : type_of% (wp_of c52_103.eq_1) := wp_of c52_103.eq_1
@[go_sem] theorem c52_104_wp : type_of% (wp_of c52_104.eq_1) := wp_of c52_104.eq_1
def c52 : AFn := ⟨132, [.c 4 (some 12), .t 5], c52_104⟩
set_option maxRecDepth 100000 in
theorem c52_ok : compF Tryz.prog Tryz.f52 = some c52 := by kernel_rfl
theorem a52 {args : List AV} {σ : ASt} {R : AV → ASt → Prop} (hl : args.length ≤ 132) (h : c52_104.wp Tryz.prog (RetQ [.c 4 (some 12), .t 5] R) (init args) σ) : ACalls Tryz.prog 52 args σ R := acalls_of Tryz.func52 c52_ok hl h
end Go.A
namespace Go.A
open Go.Proofs Go.Lib Go.Vint
set_option maxRecDepth 100000
set_option linter.unusedSimpArgs false
set_option linter.unusedVariables false
set_option maxHeartbeats 8000000 in
theorem read_le (s : List UInt8) (hs : s.length ≤ 1000000) (b : Nat) : ∀ (k p : Nat), k ≤ 2101 → p ≤ s.length → ∀ σ : ASt, U8 σ → σ b = rd s p 0 →
    ACalls Tryz.prog 52 [.ptr b 0, .int .i64 (2101 - (k : Int))] σ fun v σ' => v = .tuple [(treeR s k p).1.av, .int .i64 (treeR s k p).2.1] ∧ σ' = σ.set b (rd s (treeR s k p).2.2.1 (treeR s k p).2.2.2)
  | 0, p, hk, hp => by
    intro σ hU hb
    obtain ⟨dp, hdp⟩ : ∃ dp : Int, 2101 - ((0 : Nat) : Int) = dp := ⟨_, rfl⟩
    rw [hdp]
    have hlt : 2100 < dp := by omega
    refine ACalls.retd (K := fun v σ' => Go.A.deep v = .tuple [zNd.av, .int .i64 12] ∧ σ' = σ) ?_ (fun v σ' h => ⟨h.1, by rw [h.2]; exact (set_self hb).symm⟩)
    refine a52 (by simp) ?_
    simp (disch := first | assumption | omega | (simp only [List.length_append, List.length_cons, List.length_nil]; omega)) only [go_sem, reduceCtorEq, Nat.reduceEqDiff, Nat.reduceAdd, Nat.reduceSub, Nat.reduceMul, Nat.reduceLeDiff, Int.reduceLT, Int.reduceLE, Int.reduceEq, ↓reduceIte, Int.reduceNeg, Int.reduceAdd, Int.reduceSub, Int.reduceMul, true_imp_iff, forall_const, Nat.mul_one, Int.reduceToNat, Nat.reducePow, Int.reducePow, Bool.true_and, Bool.false_and, Bool.and_false]
    refine allocC_by fun b4 h4 => ?_
    simp (disch := first | assumption | omega | (simp only [List.length_append, List.length_cons, List.length_nil]; omega)) only [go_sem, reduceCtorEq, Nat.reduceEqDiff, Nat.reduceAdd, Nat.reduceSub, Nat.reduceMul, Nat.reduceLeDiff, Int.reduceLT, Int.reduceLE, Int.reduceEq, ↓reduceIte, Int.reduceNeg, Int.reduceAdd, Int.reduceSub, Int.reduceMul, true_imp_iff, forall_const, Nat.mul_one, Int.reduceToNat, Nat.reducePow, Int.reducePow, Bool.true_and, Bool.false_and, Bool.and_false, hlt, ASt.set_set]
    exact retC_by (Drop.set h4) (.refl _) ⟨rfl, rfl⟩
  | k + 1, p, hk, hp => by
    intro σ hU hb
    have ih := read_le s hs b k
    obtain ⟨dp, hdp⟩ : ∃ dp : Int, 2101 - ((k + 1 : Nat) : Int) = dp := ⟨_, rfl⟩
    rw [hdp]
    have hlt : ¬ 2100 < dp := by omega
    have hd1 : dp + 1 = 2101 - (k : Int) := by omega
    obtain ⟨R, hR⟩ : ∃ R, treeR s (k + 1) p = R := ⟨_, rfl⟩
    rw [hR]
    rw [treeR] at hR
    obtain ⟨f1, f2, f3, f4⟩ := readU_facts s p 0 hp
    have h1 := fun (τ : ASt) (h : τ b = rd s p 0) => ruint_ok s p 0 b τ h (by omega) hp
    generalize readU s p 0 = RU at *
    obtain ⟨u, p1, e1⟩ := RU
    dsimp only at *
    refine ACalls.retd (K := fun v σ' => Go.A.deep v = .tuple [R.1.av, .int .i64 R.2.1] ∧ σ' = σ.set b (rd s R.2.2.1 R.2.2.2)) ?_ (fun v σ' h => h)
    obtain ⟨Q, hQ⟩ : ∃ Q, Q = RetQ [.c 4 (some 12), .t 5] fun v σ' => Go.A.deep v = .tuple [R.1.av, .int .i64 R.2.1] ∧ σ' = σ.set b (rd s R.2.2.1 R.2.2.2) := ⟨_, rfl⟩
    refine a52 (by simp) ?_
    simp (disch := first | assumption | omega | (simp only [List.length_append, List.length_cons, List.length_nil]; omega)) only [go_sem, reduceCtorEq, Nat.reduceEqDiff, Nat.reduceAdd, Nat.reduceSub, Nat.reduceMul, Nat.reduceLeDiff, Int.reduceLT, Int.reduceLE, Int.reduceEq, ↓reduceIte, Int.reduceNeg, Int.reduceAdd, Int.reduceSub, Int.reduceMul, true_imp_iff, forall_const, Nat.mul_one, Int.reduceToNat, Nat.reducePow, Int.reducePow, Bool.true_and, Bool.false_and, Bool.and_false]
    refine allocC_by fun b4 h4 => ?_
    have n4 : b ≠ b4 := by rintro rfl; rw [hb] at h4; cases h4
    have hUn : ∀ x r, σ x = r → r ≠ none → x ≠ b4 := by rintro x r hx hr rfl; rw [h4] at hx; exact hr hx.symm
    have hUb : ∀ x l, σ x = some (.fix l) → x ≠ b := by rintro x l hx rfl; rw [hb] at hx; cases hx
    obtain ⟨T2, hT2⟩ : ∃ T2 : Option Role → Option Role → ASt, ∀ X Y, T2 X Y = (σ.set b X).set b4 Y := ⟨_, fun _ _ => rfl⟩
    have t2b : ∀ X Y, T2 X Y b = X := fun X Y => by rw [hT2, ASt.set_ne n4, ASt.set_same]
    have t24 : ∀ X Y, T2 X Y b4 = Y := fun X Y => by rw [hT2, ASt.set_same]
    have t2x : ∀ X Y x, x ≠ b → x ≠ b4 → T2 X Y x = σ x := fun X Y x h h' => by rw [hT2, ASt.set_ne h', ASt.set_ne h]
    have s2b : ∀ X Y X', (T2 X Y).set b X' = T2 X' Y := fun X Y X' => by rw [hT2, hT2, set_swap (Ne.symm n4), ASt.set_set]
    have s24 : ∀ X Y Y', (T2 X Y).set b4 Y' = T2 X Y' := fun X Y X' => by rw [hT2, hT2, ASt.set_set]
    have d2 : ∀ X Y, Drop (T2 X Y) (σ.set b X) := fun X Y => by rw [hT2]; exact Drop.set (by rw [ASt.set_ne (Ne.symm n4)]; exact h4)
    have U2 : ∀ X Y, U8 (T2 X Y) := fun X Y => ⟨by rw [t2x _ _ _ (hUb _ _ hU.1) (hUn _ _ hU.1 (by simp))]; exact hU.1, by rw [t2x _ _ _ (hUb _ _ hU.2) (hUn _ _ hU.2 (by simp))]; exact hU.2⟩
    have hst : ∀ Y, σ.set b4 Y = T2 (rd s p 0) Y := fun Y => by rw [hT2, set_self hb]
    rw [← hQ, hst]
    clear hT2 hst
    simp (disch := first | assumption | omega | (simp only [List.length_append, List.length_cons, List.length_nil]; omega)) only [go_sem, reduceCtorEq, Nat.reduceEqDiff, Nat.reduceAdd, Nat.reduceSub, Nat.reduceMul, Nat.reduceLeDiff, Int.reduceLT, Int.reduceLE, Int.reduceEq, ↓reduceIte, Int.reduceNeg, Int.reduceAdd, Int.reduceSub, Int.reduceMul, true_imp_iff, forall_const, Nat.mul_one, Int.reduceToNat, Nat.reducePow, Int.reducePow, Bool.true_and, Bool.false_and, Bool.and_false, hlt]
    refine (h1 _ (t2b _ _)).mono ?_
    rintro v σ1 ⟨rfl, rfl⟩
    rw [s2b]
    simp (disch := first | assumption | omega | (simp only [List.length_append, List.length_cons, List.length_nil]; omega)) only [go_sem, reduceCtorEq, Nat.reduceEqDiff, Nat.reduceAdd, Nat.reduceSub, Nat.reduceMul, Nat.reduceLeDiff, Int.reduceLT, Int.reduceLE, Int.reduceEq, ↓reduceIte, Int.reduceNeg, Int.reduceAdd, Int.reduceSub, Int.reduceMul, true_imp_iff, forall_const, Nat.mul_one, Int.reduceToNat, Nat.reducePow, Int.reducePow, Bool.true_and, Bool.false_and, Bool.and_false]
    refine (rerr_ok s p1 e1 b _ (t2b _ _)).mono ?_
    rintro v σ1 ⟨rfl, rfl⟩
    by_cases he : e1 = 0
    · subst he
      rw [if_neg (by simp)] at hR
      by_cases hu : u < 1 ∨ 23 < u
      · rw [if_pos hu] at hR
        subst hR
        rw [hQ]
        by_cases hu1 : (u : Int) < 1
        · simp (disch := first | assumption | omega | (simp only [List.length_append, List.length_cons, List.length_nil]; omega)) only [go_sem, reduceCtorEq, Nat.reduceEqDiff, Nat.reduceAdd, Nat.reduceSub, Nat.reduceMul, Nat.reduceLeDiff, Int.reduceLT, Int.reduceLE, Int.reduceEq, ↓reduceIte, Int.reduceNeg, Int.reduceAdd, Int.reduceSub, Int.reduceMul, true_imp_iff, forall_const, Nat.mul_one, Int.reduceToNat, Nat.reducePow, Int.reducePow, Bool.true_and, Bool.false_and, Bool.and_false, hu1, t24, s24]
          exact retC_by (d2 _ _) (.refl _) ⟨rfl, rfl⟩
        · have hu2 : (23 : Int) < u := by omega
          simp (disch := first | assumption | omega | (simp only [List.length_append, List.length_cons, List.length_nil]; omega)) only [go_sem, reduceCtorEq, Nat.reduceEqDiff, Nat.reduceAdd, Nat.reduceSub, Nat.reduceMul, Nat.reduceLeDiff, Int.reduceLT, Int.reduceLE, Int.reduceEq, ↓reduceIte, Int.reduceNeg, Int.reduceAdd, Int.reduceSub, Int.reduceMul, true_imp_iff, forall_const, Nat.mul_one, Int.reduceToNat, Nat.reducePow, Int.reducePow, Bool.true_and, Bool.false_and, Bool.and_false, hu1, hu2, t24, s24]
          exact retC_by (d2 _ _) (.refl _) ⟨rfl, rfl⟩
      rw [if_neg hu] at hR
      have hu1 : ¬ (u : Int) < 1 := by omega
      have hu2 : ¬ (23 : Int) < u := by omega
      obtain ⟨op, hop⟩ : ∃ op : Int, (u : Int) = op := ⟨_, rfl⟩
      have hH := headR_facts s op p1 f2
      have hHe : headR s (u : Int) p1 = headR s op p1 := by rw [hop]
      rw [hHe, hop] at hR
      have o1 : 1 ≤ op := by omega
      have o2 : op ≤ 23 := by omega
      obtain ⟨F, hF⟩ : ∃ F, F = ACode.wp Tryz.prog c52_96 := ⟨_, rfl⟩
      have hww : IntKind.wrap .i64 op = op := by rw [IntKind.wrap_i64]; omega
      have hki := ekids_ok op
      rw [hop]
      simp (disch := first | assumption | omega | (simp only [List.length_append, List.length_cons, List.length_nil]; omega)) only [go_sem, reduceCtorEq, Nat.reduceEqDiff, Nat.reduceAdd, Nat.reduceSub, Nat.reduceMul, Nat.reduceLeDiff, Int.reduceLT, Int.reduceLE, Int.reduceEq, ↓reduceIte, Int.reduceNeg, Int.reduceAdd, Int.reduceSub, Int.reduceMul, true_imp_iff, forall_const, Nat.mul_one, Int.reduceToNat, Nat.reducePow, Int.reducePow, Bool.true_and, Bool.false_and, Bool.and_false, hu1, hu2, hop, ←hF]
      refine allocC_by fun b7 h7 => ?_
      have n7 : b ≠ b7 := by rintro rfl; rw [t2b] at h7; simp [rd] at h7
      have n47 : b4 ≠ b7 := by rintro rfl; rw [t24] at h7; cases h7
      have t27 : ∀ X Y, T2 X Y b7 = none := fun X Y => by
        rw [t2x _ _ _ (Ne.symm n7) (Ne.symm n47)]
        rwa [t2x _ _ _ (Ne.symm n7) (Ne.symm n47)] at h7
      obtain ⟨T3, hT3⟩ : ∃ T3 : Option Role → Option Role → Option Role → ASt, ∀ X Y Z, (T2 X Y).set b7 Z = T3 X Y Z := ⟨_, fun _ _ _ => rfl⟩
      have t3b : ∀ X Y Z, T3 X Y Z b = X := fun X Y Z => by rw [← hT3, ASt.set_ne n7, t2b]
      have t34 : ∀ X Y Z, T3 X Y Z b4 = Y := fun X Y Z => by rw [← hT3, ASt.set_ne n47, t24]
      have t37 : ∀ X Y Z, T3 X Y Z b7 = Z := fun X Y Z => by rw [← hT3, ASt.set_same]
      have s3b : ∀ X Y Z X', (T3 X Y Z).set b X' = T3 X' Y Z := fun X Y Z X' => by rw [← hT3, ← hT3, set_swap (Ne.symm n7), s2b]
      have s34 : ∀ X Y Z X', (T3 X Y Z).set b4 X' = T3 X X' Z := fun X Y Z X' => by rw [← hT3, ← hT3, set_swap (Ne.symm n47), s24]
      have s37 : ∀ X Y Z X', (T3 X Y Z).set b7 X' = T3 X Y X' := fun X Y Z X' => by rw [← hT3, ← hT3, ASt.set_set]
      have d3 : ∀ X Y Z, Drop (T3 X Y Z) (σ.set b X) := fun X Y Z => by rw [← hT3]; exact (Drop.set (t27 _ _)).trans (d2 _ _)
      have U3 : ∀ X Y Z, U8 (T3 X Y Z) := fun X Y Z => by rw [← hT3]; exact (U2 X Y).set (t27 _ _)
      obtain ⟨Z12, hZ12⟩ : ∃ Z, Z = zero12 := ⟨_, rfl⟩
      have hz0 : ([.int .i64 0, .int .i64 0, .str [], .int .i64 0, .int .i64 0, .bool false, .bool false, .int .i64 0, .int .i64 0, .bool false, .bool false, .sl .full []] : List AV) = Z12 := hZ12.symm
      have fin : ∀ (n : Int) (s' : List UInt8) (a b' : Ref) (cnt : Nat) (ok : Bool) (P : Nat) (E : Int) (a1 : AFr), headR s op p1 = ⟨n, s', a, b', cnt, ok, P, E⟩ →
          (a1 0 = .ptr b 0 ∧ a1 1 = .int .i64 dp ∧ a1 4 = .ptr b4 0 ∧ a1 7 = .ptr b7 0 ∧ a1 8 = .int .i64 cnt ∧ a1 9 = .bool ok) → F Q a1 (T3 (rd s P E) (some (.obj Z12)) (some (.obj (ndV op n s' a b' (.sl .full []))))) := by
        intro n s' a b' cnt ok P E a1 hh hf
        rw [hh] at hR hH
        dsimp only at hR hH
        rw [hF]
        have hzr : (Z12.length = 12) := by rw [hZ12]; rfl
        simp (disch := first | assumption | omega | (simp only [List.length_append, List.length_cons, List.length_nil]; omega)) only [go_sem, reduceCtorEq, Nat.reduceEqDiff, Nat.reduceAdd, Nat.reduceSub, Nat.reduceMul, Nat.reduceLeDiff, Int.reduceLT, Int.reduceLE, Int.reduceEq, ↓reduceIte, Int.reduceNeg, Int.reduceAdd, Int.reduceSub, Int.reduceMul, true_imp_iff, forall_const, Nat.mul_one, Int.reduceToNat, Nat.reducePow, Int.reducePow, Bool.true_and, Bool.false_and, Bool.and_false, hf]
        refine (rerr_ok s P E b _ (t3b _ _ _)).mono ?_
        rintro v σ1 ⟨rfl, rfl⟩
        by_cases hE : E = 0
        · rw [if_neg (by simp [hE])] at hR
          subst hE
          cases ok with
          | false =>
            rw [if_pos rfl] at hR
            subst hR
            rw [hQ, hZ12]
            unfold zero12
            simp (disch := first | assumption | omega | (simp only [List.length_append, List.length_cons, List.length_nil]; omega)) only [go_sem, reduceCtorEq, Nat.reduceEqDiff, Nat.reduceAdd, Nat.reduceSub, Nat.reduceMul, Nat.reduceLeDiff, Int.reduceLT, Int.reduceLE, Int.reduceEq, ↓reduceIte, Int.reduceNeg, Int.reduceAdd, Int.reduceSub, Int.reduceMul, true_imp_iff, forall_const, Nat.mul_one, Int.reduceToNat, Nat.reducePow, Int.reducePow, Bool.true_and, Bool.false_and, Bool.and_false, hf, t34, s34]
            exact retC_by (d3 _ _ _) (.refl _) ⟨rfl, rfl⟩
          | true =>
            rw [if_neg (by simp)] at hR
            simp (disch := first | assumption | omega | (simp only [List.length_append, List.length_cons, List.length_nil]; omega)) only [go_sem, reduceCtorEq, Nat.reduceEqDiff, Nat.reduceAdd, Nat.reduceSub, Nat.reduceMul, Nat.reduceLeDiff, Int.reduceLT, Int.reduceLE, Int.reduceEq, ↓reduceIte, Int.reduceNeg, Int.reduceAdd, Int.reduceSub, Int.reduceMul, true_imp_iff, forall_const, Nat.mul_one, Int.reduceToNat, Nat.reducePow, Int.reducePow, Bool.true_and, Bool.false_and, Bool.and_false, hf]
            have h4z : ∀ X Y, T3 X (some (.obj Z12)) Y b4 = some (.obj Z12) := fun X Y => t34 _ _ _
            refine wp_loop_by (fun (q : List Nd × Nat) a2 s2 => (q.1.length ≤ cnt ∧ q.2 ≤ s.length ∧ kidsR (treeR s k) (fun ks => Nd.mk op n s' a b' ks) (cnt - q.1.length) q.1 q.2 = R) ∧
                (a2 0 = .ptr b 0 ∧ a2 1 = .int .i64 dp ∧ a2 4 = .ptr b4 0 ∧ a2 7 = .ptr b7 0 ∧ a2 110 = .int .i64 cnt ∧ a2 111 = .int .i64 q.1.length) ∧
                ∃ v, OwnSl (T3 (rd s q.2 0) (some (.obj Z12)) (some (.obj (ndV op n s' a b' v)))) s2 v (q.1.map Nd.av) 12) (fun q => cnt - q.1.length) ([], P) (Dr.now ⟨⟨Nat.zero_le _, hH.1, by simpa using hR⟩, ?_, .sl .full [], .inl ⟨rfl, rfl, rfl⟩⟩) ?_
            · simp only [List.length_nil]
              simp (disch := first | assumption | omega | (simp only [List.length_append, List.length_cons, List.length_nil]; omega)) only [go_sem, reduceCtorEq, Nat.reduceEqDiff, Nat.reduceAdd, Nat.reduceSub, Nat.reduceMul, Nat.reduceLeDiff, Int.reduceLT, Int.reduceLE, Int.reduceEq, ↓reduceIte, Int.reduceNeg, Int.reduceAdd, Int.reduceSub, Int.reduceMul, true_imp_iff, forall_const, Nat.mul_one, Int.reduceToNat, Nat.reducePow, Int.reducePow, Bool.true_and, Bool.false_and, Bool.and_false, hf]
            rintro ⟨D, pp⟩ a2 s2 ⟨⟨g1, g2, g3⟩, hf2, v, hO⟩
            dsimp only at g1 g2 g3 hf2 hO
            have hbb : s2 b = rd s pp 0 := hO.at (x := b) (t3b _ _ _)
            have hb7 := hO.at (x := b7) (t37 _ _ _)
            have hb4 := hO.at (x := b4) (t34 _ _ _)
            have hDm : (D.map Nd.av).length = D.length := by simp
            have hlD : ∀ y ∈ D.map Nd.av, y.cells.length = 12 := by
              intro y hy
              obtain ⟨z, _, rfl⟩ := List.mem_map.1 hy
              exact Nd.av_len z
            by_cases hdl : D.length < cnt
            · have hdl' : (D.length : Int) < cnt := by omega
              have hU3 := U3 (rd s pp 0) (some (.obj Z12)) (some (.obj (ndV op n s' a b' v)))
              have hcall := ih pp (by omega) g2 s2 ⟨hO.at hU3.1, hO.at hU3.2⟩ hbb
              have hfacts := treeR_facts s k pp g2
              rw [show cnt - D.length = (cnt - (D.length + 1)) + 1 by omega, kidsR] at g3
              rw [← hd1] at hcall
              obtain ⟨x, hxx⟩ : ∃ x, (treeR s k pp).1 = x := ⟨_, rfl⟩
              obtain ⟨e', hee⟩ : ∃ x, (treeR s k pp).2.1 = x := ⟨_, rfl⟩
              obtain ⟨pp', hpp⟩ : ∃ x, (treeR s k pp).2.2.1 = x := ⟨_, rfl⟩
              obtain ⟨er, her⟩ : ∃ x, (treeR s k pp).2.2.2 = x := ⟨_, rfl⟩
              rw [hxx, hee, hpp, her] at hcall
              rw [hee, hpp, her] at hfacts
              rw [hxx, hee, hpp, her] at g3
              have hO1 := hO.put (t3b (rd s pp 0) (some (.obj Z12)) (some (.obj (ndV op n s' a b' v))) : _ = some _) (rd s pp' er)
              rw [s3b] at hO1
              have hDx : ((D ++ [x]).map Nd.av) = D.map Nd.av ++ [x.av] := by simp
              have hDl : (D ++ [x]).length = D.length + 1 := by simp
              obtain ⟨xo, xm, xs, xa, xb, xk⟩ := x
              rw [Nd.av_cs] at hcall hDx
              generalize hXK : xk.map Nd.av = XK at *
              simp (disch := first | assumption | omega | (simp only [List.length_append, List.length_cons, List.length_nil]; omega)) only [go_sem, reduceCtorEq, Nat.reduceEqDiff, Nat.reduceAdd, Nat.reduceSub, Nat.reduceMul, Nat.reduceLeDiff, Int.reduceLT, Int.reduceLE, Int.reduceEq, ↓reduceIte, Int.reduceNeg, Int.reduceAdd, Int.reduceSub, Int.reduceMul, true_imp_iff, forall_const, Nat.mul_one, Int.reduceToNat, Nat.reducePow, Int.reducePow, Bool.true_and, Bool.false_and, Bool.and_false, hf2, hdl']
              refine hcall.mono ?_
              rintro w σ1 ⟨rfl, rfl⟩
              have hb71 := hO1.at (x := b7) (t37 _ _ _)
              have hb41 := hO1.at (x := b4) (t34 _ _ _)
              generalize hs3 : s2.set b (rd s pp' er) = s3 at *
              simp (disch := first | assumption | omega | (simp only [List.length_append, List.length_cons, List.length_nil]; omega)) only [go_sem, reduceCtorEq, Nat.reduceEqDiff, Nat.reduceAdd, Nat.reduceSub, Nat.reduceMul, Nat.reduceLeDiff, Int.reduceLT, Int.reduceLE, Int.reduceEq, ↓reduceIte, Int.reduceNeg, Int.reduceAdd, Int.reduceSub, Int.reduceMul, true_imp_iff, forall_const, Nat.mul_one, Int.reduceToNat, Nat.reducePow, Int.reducePow, Bool.true_and, Bool.false_and, Bool.and_false]
              refine allocC_by fun e he => ?_
              have he7 : b7 ≠ e := by rintro rfl; rw [hb71] at he; cases he
              have he4 : b4 ≠ e := by rintro rfl; rw [hb41] at he; cases he
              by_cases h0 : e' = 0
              · subst h0
                have her0 := hfacts.2 rfl
                subst her0
                rw [if_neg (by simp)] at g3
                have he0 : T3 (rd s pp' 0) (some (.obj Z12)) (some (.obj (ndV op n s' a b' v))) e = none := hO1.fresh he
                have hOe := hO1.add (r := some (.obj (Nd.cs xo xm xs xa xb XK))) he
                have hb7e : (s3.set e (some (.obj (Nd.cs xo xm xs xa xb XK)))) b7 = some (.obj (ndV op n s' a b' v)) := by rw [ASt.set_ne he7]; exact hb71
                simp (disch := first | assumption | omega | (simp only [List.length_append, List.length_cons, List.length_nil]; omega)) only [go_sem, reduceCtorEq, Nat.reduceEqDiff, Nat.reduceAdd, Nat.reduceSub, Nat.reduceMul, Nat.reduceLeDiff, Int.reduceLT, Int.reduceLE, Int.reduceEq, ↓reduceIte, Int.reduceNeg, Int.reduceAdd, Int.reduceSub, Int.reduceMul, true_imp_iff, forall_const, Nat.mul_one, Int.reduceToNat, Nat.reducePow, Int.reducePow, Bool.true_and, Bool.false_and, Bool.and_false, hf2, hb71, hb7e, ASt.set_set]
                refine OwnSl.app hOe hlD rfl rfl (by rw [hDm]; simp only [List.length_cons, List.length_nil]; omega) (by rw [hDm]; simp only [List.length_cons, List.length_nil]; omega) (by simp) fun v' σ' ⟨σ2, hd, hO2⟩ => ?_
                have h70 : ((T3 (rd s pp' 0) (some (.obj Z12)) (some (.obj (ndV op n s' a b' v)))).set e (some (.obj (Nd.cs xo xm xs xa xb XK)))) b7 = some (.obj (ndV op n s' a b' v)) := by rw [ASt.set_ne he7, t37]
                have hb7' := hd.had (hO2.at h70)
                have hO3 := hO2.put h70 (some (.obj (ndV op n s' a b' v')))
                rw [set_swap (Ne.symm he7), s37] at hO3
                have he0' : T3 (rd s pp' 0) (some (.obj Z12)) (some (.obj (ndV op n s' a b' v'))) e = none := by
                  rw [← s37 _ _ (some (.obj (ndV op n s' a b' v))), ASt.set_ne (Ne.symm he7)]; exact he0
                obtain ⟨σ5, hd5, hO5⟩ := hO3.less he0'
                have hvl := hO2.leaf
                have hvc := hvl.2
                have hvv : leaves [v'] = true := by rw [leaf1]; exact hvl.1
                have hD5 : Drop (σ'.set b7 (some (.obj (ndV op n s' a b' v')))) σ5 := hd.set_cong.trans hd5
                simp (disch := first | assumption | omega | (simp only [List.length_append, List.length_cons, List.length_nil]; omega)) only [go_sem, reduceCtorEq, Nat.reduceEqDiff, Nat.reduceAdd, Nat.reduceSub, Nat.reduceMul, Nat.reduceLeDiff, Int.reduceLT, Int.reduceLE, Int.reduceEq, ↓reduceIte, Int.reduceNeg, Int.reduceAdd, Int.reduceSub, Int.reduceMul, true_imp_iff, forall_const, Nat.mul_one, Int.reduceToNat, Nat.reducePow, Int.reducePow, Bool.true_and, Bool.false_and, Bool.and_false, hf2, hb7', hvc, hvv]
                refine ⟨(D ++ [Nd.mk xo xm xs xa xb xk], pp'), by dsimp only; rw [hDl]; omega, Dr.drop hD5 ⟨⟨by dsimp only; omega, hfacts.1, ?_⟩, ?_, v', ?_⟩⟩
                · dsimp only; rw [hDl]; exact g3
                · dsimp only
                  rw [hDl]
                  simp (disch := first | assumption | omega | (simp only [List.length_append, List.length_cons, List.length_nil]; omega)) only [go_sem, reduceCtorEq, Nat.reduceEqDiff, Nat.reduceAdd, Nat.reduceSub, Nat.reduceMul, Nat.reduceLeDiff, Int.reduceLT, Int.reduceLE, Int.reduceEq, ↓reduceIte, Int.reduceNeg, Int.reduceAdd, Int.reduceSub, Int.reduceMul, true_imp_iff, forall_const, Nat.mul_one, Int.reduceToNat, Nat.reducePow, Int.reducePow, Bool.true_and, Bool.false_and, Bool.and_false, hf2]
                · dsimp only
                  rw [hDx]; exact hO5
              · rw [if_pos h0] at g3
                subst g3
                have hb4e : (s3.set e (some (.obj (Nd.cs xo xm xs xa xb XK)))) b4 = some (.obj Z12) := by rw [ASt.set_ne he4]; exact hb41
                have hO4 := hO1.put (t34 _ _ _) (some (.obj Z12))
                rw [s34] at hO4
                have hfin : ∀ X : Option Role, Drop ((s3.set e X).set b4 (some (.obj Z12))) (σ.set b (rd s pp' er)) := fun X => by
                  rw [set_swap (Ne.symm he4)]
                  exact ((Drop.set (by rw [ASt.set_ne (Ne.symm he4)]; exact he)).trans hO4.drop).trans (d3 _ _ _)
                have hs4 : ∀ X : Option Role, ((s3.set e X).set b4 (some (.obj Z12))) b4 = some (.obj Z12) := fun X => ASt.set_same _ _ _
                rw [hZ12] at hb4e hfin
                unfold zero12 at hb4e hfin
                rw [hQ]
                simp (disch := first | assumption | omega | (simp only [List.length_append, List.length_cons, List.length_nil]; omega)) only [go_sem, reduceCtorEq, Nat.reduceEqDiff, Nat.reduceAdd, Nat.reduceSub, Nat.reduceMul, Nat.reduceLeDiff, Int.reduceLT, Int.reduceLE, Int.reduceEq, ↓reduceIte, Int.reduceNeg, Int.reduceAdd, Int.reduceSub, Int.reduceMul, true_imp_iff, forall_const, Nat.mul_one, Int.reduceToNat, Nat.reducePow, Int.reducePow, Bool.true_and, Bool.false_and, Bool.and_false, hf2, hb4e, h0, ASt.set_set]
                exact retC_by (hfin _) (.refl _) ⟨rfl, rfl⟩
            · have hdl' : ¬ (D.length : Int) < cnt := by omega
              rw [show cnt - D.length = 0 by omega, kidsR] at g3
              subst g3
              have hnl := nv_leaves (o := op) (m := n) (s := s') (a := a) (b := b') hO.leaf.1
              have hO2 := hO.put (t34 _ _ _) (some (.obj (ndV op n s' a b' v)))
              rw [s34] at hO2
              have hDz := d3 (rd s pp 0) (some (.obj (ndV op n s' a b' v))) (some (.obj (ndV op n s' a b' v)))
              have hz := hO2.fz hlD (fun x hx => hDz.nil hx)
              rw [hZ12] at hb4
              unfold zero12 at hb4
              rw [hQ]
              have hdv : Go.A.deep (.tuple [.agg (ndV op n s' a b' (.sl .shr (D.map Nd.av))), .int .i64 0]) = .tuple [(Nd.mk op n s' a b' D).av, .int .i64 0] := by
                rw [Nd.av_cs]
                show AV.tuple [.agg (Nd.cs op n s' a b' (Go.A.deeps (D.map Nd.av))), .int .i64 0] = _
                rw [deeps_map]
              simp (disch := first | assumption | omega | (simp only [List.length_append, List.length_cons, List.length_nil]; omega)) only [go_sem, reduceCtorEq, Nat.reduceEqDiff, Nat.reduceAdd, Nat.reduceSub, Nat.reduceMul, Nat.reduceLeDiff, Int.reduceLT, Int.reduceLE, Int.reduceEq, ↓reduceIte, Int.reduceNeg, Int.reduceAdd, Int.reduceSub, Int.reduceMul, true_imp_iff, forall_const, Nat.mul_one, Int.reduceToNat, Nat.reducePow, Int.reducePow, Bool.true_and, Bool.false_and, Bool.and_false, hf2, hdl', hb7, hb4, hnl]
              refine retC_by (r := .tuple [.agg (ndV op n s' a b' (.sl .shr (D.map Nd.av))), .int .i64 0]) (hO2.drop.trans hDz) ?_ ⟨hdv, rfl⟩
              exact .tuple (.cons (.agg (.cons (.refl _) (.cons (.refl _) (.cons (.refl _) (.cons (.refl _) (.cons (.refl _) (.cons (.refl _) (.cons (.refl _) (.cons (.refl _) (.cons (.refl _) (.cons (.refl _) (.cons (.refl _) (.cons hz .nil))))))))))))) (.cons (.refl _) .nil))
        · rw [if_pos hE] at hR
          subst hR
          simp (disch := first | assumption | omega | (simp only [List.length_append, List.length_cons, List.length_nil]; omega)) only [go_sem, reduceCtorEq, Nat.reduceEqDiff, Nat.reduceAdd, Nat.reduceSub, Nat.reduceMul, Nat.reduceLeDiff, Int.reduceLT, Int.reduceLE, Int.reduceEq, ↓reduceIte, Int.reduceNeg, Int.reduceAdd, Int.reduceSub, Int.reduceMul, true_imp_iff, forall_const, Nat.mul_one, Int.reduceToNat, Nat.reducePow, Int.reducePow, Bool.true_and, Bool.false_and, Bool.and_false, hf, hE]
          refine (rerr_ok s P E b _ (t3b _ _ _)).mono ?_
          rintro v σ1 ⟨rfl, rfl⟩
          rw [hQ, hZ12]
          unfold zero12
          simp (disch := first | assumption | omega | (simp only [List.length_append, List.length_cons, List.length_nil]; omega)) only [go_sem, reduceCtorEq, Nat.reduceEqDiff, Nat.reduceAdd, Nat.reduceSub, Nat.reduceMul, Nat.reduceLeDiff, Int.reduceLT, Int.reduceLE, Int.reduceEq, ↓reduceIte, Int.reduceNeg, Int.reduceAdd, Int.reduceSub, Int.reduceMul, true_imp_iff, forall_const, Nat.mul_one, Int.reduceToNat, Nat.reducePow, Int.reducePow, Bool.true_and, Bool.false_and, Bool.and_false, hf, t34, s34]
          exact retC_by (d3 _ _ _) (.refl _) ⟨rfl, rfl⟩
      obtain ⟨B, hB⟩ : ∃ B, B = ACode.wp Tryz.prog c52_97 := ⟨_, rfl⟩
      have brs : ∀ (a1 : AFr), (a1 0 = .ptr b 0 ∧ a1 1 = .int .i64 dp ∧ a1 4 = .ptr b4 0 ∧ a1 7 = .ptr b7 0 ∧ a1 8 = .int .i64 (arity op : Nat) ∧ a1 9 = .bool true) →
          B Q a1 (T3 (rd s p1 0) (some (.obj Z12)) (some (.obj [.int .i64 op, .int .i64 0, .str [], .int .i64 0, .int .i64 0, .bool false, .bool false, .int .i64 0, .int .i64 0, .bool false, .bool false, .sl .full []]))) := by
        intro a1 hf
        rw [hB]
        clear hB hQ ih
        have hs2 : s.length ≤ 4611686018427387904 := by omega
        have e2000 : ((2000 : Nat) : Int) = 2000 := rfl
        by_cases h134 : op = 1 ∨ op = 3 ∨ op = 4
        · have hh : headR s op p1 = ⟨unfI (readU s p1 0).1, [], .zero, .zero, 0, valueP op (unfI (readU s p1 0).1), (readU s p1 0).2.1, (readU s p1 0).2.2⟩ := if_pos h134
          have ha : arity op = 0 := by unfold arity; rw [if_neg (by omega), if_neg (by omega)]
          rw [ha] at hf
          have hI := fun τ h => rint_ok s p1 0 b τ h hs2 f2
          obtain ⟨w1, _⟩ := readU_facts s p1 0 f2
          generalize readU s p1 0 = V at *
          obtain ⟨v, P, E⟩ := V
          dsimp only at hh hI w1
          have hv : -9223372036854775808 ≤ unfI v ∧ unfI v ≤ 9223372036854775807 := by unfold unfI; split <;> omega
          generalize unfI v = n at *
          have hV := evalue_ok op n [] .zero .zero [] hv.1 hv.2
          generalize valueP op n = ok at *
          rcases h134 with h1 | h1 | h1
          all_goals
            simp (disch := first | assumption | omega | (simp only [List.length_append, List.length_cons, List.length_nil]; omega)) only [go_sem, reduceCtorEq, Nat.reduceEqDiff, Nat.reduceAdd, Nat.reduceSub, Nat.reduceMul, Nat.reduceLeDiff, Int.reduceLT, Int.reduceLE, Int.reduceEq, ↓reduceIte, Int.reduceNeg, Int.reduceAdd, Int.reduceSub, Int.reduceMul, true_imp_iff, forall_const, Nat.mul_one, Int.reduceToNat, Nat.reducePow, Int.reducePow, Bool.true_and, Bool.false_and, Bool.and_false, hf, h1, t37, ←hF]
            refine (hI _ (t3b _ _ _)).mono ?_
            rintro w σ1 ⟨rfl, rfl⟩
            rw [s3b]
            simp (disch := first | assumption | omega | (simp only [List.length_append, List.length_cons, List.length_nil]; omega)) only [go_sem, reduceCtorEq, Nat.reduceEqDiff, Nat.reduceAdd, Nat.reduceSub, Nat.reduceMul, Nat.reduceLeDiff, Int.reduceLT, Int.reduceLE, Int.reduceEq, ↓reduceIte, Int.reduceNeg, Int.reduceAdd, Int.reduceSub, Int.reduceMul, true_imp_iff, forall_const, Nat.mul_one, Int.reduceToNat, Nat.reducePow, Int.reducePow, Bool.true_and, Bool.false_and, Bool.and_false, hf, t37, s37, ←hF]
            refine ACalls.deep (args' := [(Nd.mk op n [] .zero .zero []).av]) (by rw [Nd.av_cs]; subst h1; rfl) (hV.use ?_)
            simp (disch := first | assumption | omega | (simp only [List.length_append, List.length_cons, List.length_nil]; omega)) only [go_sem, reduceCtorEq, Nat.reduceEqDiff, Nat.reduceAdd, Nat.reduceSub, Nat.reduceMul, Nat.reduceLeDiff, Int.reduceLT, Int.reduceLE, Int.reduceEq, ↓reduceIte, Int.reduceNeg, Int.reduceAdd, Int.reduceSub, Int.reduceMul, true_imp_iff, forall_const, Nat.mul_one, Int.reduceToNat, Nat.reducePow, Int.reducePow, Bool.true_and, Bool.false_and, Bool.and_false, hf, ←hF]
            first | (refine fin n [] .zero .zero 0 ok P E _ hh ?_) | (subst h1; refine fin n [] .zero .zero 0 ok P E _ hh ?_)
            simp (disch := first | assumption | omega | (simp only [List.length_append, List.length_cons, List.length_nil]; omega)) only [go_sem, reduceCtorEq, Nat.reduceEqDiff, Nat.reduceAdd, Nat.reduceSub, Nat.reduceMul, Nat.reduceLeDiff, Int.reduceLT, Int.reduceLE, Int.reduceEq, ↓reduceIte, Int.reduceNeg, Int.reduceAdd, Int.reduceSub, Int.reduceMul, true_imp_iff, forall_const, Nat.mul_one, Int.reduceToNat, Nat.reducePow, Int.reducePow, Bool.true_and, Bool.false_and, Bool.and_false, hf]
        have g1 : op ≠ 1 := by omega
        have g3 : op ≠ 3 := by omega
        have g4 : op ≠ 4 := by omega
        by_cases h2 : op = 2
        · have hh : headR s op p1 = ⟨0, (rtxP s p1 0 2000).1, .zero, .zero, 0, (sgT (rtxP s p1 0 2000).1).isSome, (rtxP s p1 0 2000).2.1, (rtxP s p1 0 2000).2.2⟩ := by unfold headR; rw [if_neg h134, if_pos h2]
          have ha : arity op = 0 := by unfold arity; rw [if_neg (by omega), if_neg (by omega)]
          rw [ha] at hf
          have hI := fun τ h => rtext_ok s p1 0 2000 b τ h hs2 f2 (by omega)
          obtain ⟨w1, w2⟩ := rtxP_facts s p1 2000 f2
          rw [e2000] at hI
          generalize rtxP s p1 0 2000 = V at *
          obtain ⟨t, P, E⟩ := V
          dsimp only at hh hI w1 w2
          have hS := fun τ h => tsigns_ok (σ := τ) h t (by omega)
          subst h2
          simp (disch := first | assumption | omega | (simp only [List.length_append, List.length_cons, List.length_nil]; omega)) only [go_sem, reduceCtorEq, Nat.reduceEqDiff, Nat.reduceAdd, Nat.reduceSub, Nat.reduceMul, Nat.reduceLeDiff, Int.reduceLT, Int.reduceLE, Int.reduceEq, ↓reduceIte, Int.reduceNeg, Int.reduceAdd, Int.reduceSub, Int.reduceMul, true_imp_iff, forall_const, Nat.mul_one, Int.reduceToNat, Nat.reducePow, Int.reducePow, Bool.true_and, Bool.false_and, Bool.and_false, hf, t37, ←hF]
          refine (hI _ (t3b _ _ _)).mono ?_
          rintro w σ1 ⟨rfl, rfl⟩
          rw [s3b]
          simp (disch := first | assumption | omega | (simp only [List.length_append, List.length_cons, List.length_nil]; omega)) only [go_sem, reduceCtorEq, Nat.reduceEqDiff, Nat.reduceAdd, Nat.reduceSub, Nat.reduceMul, Nat.reduceLeDiff, Int.reduceLT, Int.reduceLE, Int.reduceEq, ↓reduceIte, Int.reduceNeg, Int.reduceAdd, Int.reduceSub, Int.reduceMul, true_imp_iff, forall_const, Nat.mul_one, Int.reduceToNat, Nat.reducePow, Int.reducePow, Bool.true_and, Bool.false_and, Bool.and_false, hf, t37, s37, ←hF]
          refine (hS _ (U3 _ _ _)).mono ?_
          rintro w σ1 ⟨rfl, rfl⟩
          unfold sgAV
          cases hsg : sgT t with
          | some m =>
            rw [hsg] at hh
            dsimp only
            simp (disch := first | assumption | omega | (simp only [List.length_append, List.length_cons, List.length_nil]; omega)) only [go_sem, reduceCtorEq, Nat.reduceEqDiff, Nat.reduceAdd, Nat.reduceSub, Nat.reduceMul, Nat.reduceLeDiff, Int.reduceLT, Int.reduceLE, Int.reduceEq, ↓reduceIte, Int.reduceNeg, Int.reduceAdd, Int.reduceSub, Int.reduceMul, true_imp_iff, forall_const, Nat.mul_one, Int.reduceToNat, Nat.reducePow, Int.reducePow, Bool.true_and, Bool.false_and, Bool.and_false, hf, ←hF]
            refine fin 0 t .zero .zero 0 true P E _ hh ?_
            simp (disch := first | assumption | omega | (simp only [List.length_append, List.length_cons, List.length_nil]; omega)) only [go_sem, reduceCtorEq, Nat.reduceEqDiff, Nat.reduceAdd, Nat.reduceSub, Nat.reduceMul, Nat.reduceLeDiff, Int.reduceLT, Int.reduceLE, Int.reduceEq, ↓reduceIte, Int.reduceNeg, Int.reduceAdd, Int.reduceSub, Int.reduceMul, true_imp_iff, forall_const, Nat.mul_one, Int.reduceToNat, Nat.reducePow, Int.reducePow, Bool.true_and, Bool.false_and, Bool.and_false, hf]
          | none =>
            rw [hsg] at hh
            dsimp only
            simp (disch := first | assumption | omega | (simp only [List.length_append, List.length_cons, List.length_nil]; omega)) only [go_sem, reduceCtorEq, Nat.reduceEqDiff, Nat.reduceAdd, Nat.reduceSub, Nat.reduceMul, Nat.reduceLeDiff, Int.reduceLT, Int.reduceLE, Int.reduceEq, ↓reduceIte, Int.reduceNeg, Int.reduceAdd, Int.reduceSub, Int.reduceMul, true_imp_iff, forall_const, Nat.mul_one, Int.reduceToNat, Nat.reducePow, Int.reducePow, Bool.true_and, Bool.false_and, Bool.and_false, hf, ←hF]
            refine fin 0 t .zero .zero 0 false P E _ hh ?_
            simp (disch := first | assumption | omega | (simp only [List.length_append, List.length_cons, List.length_nil]; omega)) only [go_sem, reduceCtorEq, Nat.reduceEqDiff, Nat.reduceAdd, Nat.reduceSub, Nat.reduceMul, Nat.reduceLeDiff, Int.reduceLT, Int.reduceLE, Int.reduceEq, ↓reduceIte, Int.reduceNeg, Int.reduceAdd, Int.reduceSub, Int.reduceMul, true_imp_iff, forall_const, Nat.mul_one, Int.reduceToNat, Nat.reducePow, Int.reducePow, Bool.true_and, Bool.false_and, Bool.and_false, hf]
        by_cases h5 : op = 5
        · have hh : headR s op p1 = ⟨0, [], (refR s p1 0).1.1, .zero, 0, (refR s p1 0).1.2, (refR s p1 0).2.1, (refR s p1 0).2.2⟩ := by unfold headR; rw [if_neg h134, if_neg h2, if_pos h5]
          have ha : arity op = 0 := by unfold arity; rw [if_neg (by omega), if_neg (by omega)]
          rw [ha] at hf
          have hI := fun τ h => getref_ok s p1 0 b τ h hs f2
          generalize refR s p1 0 = V at *
          obtain ⟨⟨r, ok⟩, P, E⟩ := V
          dsimp only at hh hI
          unfold refAV at hI
          subst h5
          simp (disch := first | assumption | omega | (simp only [List.length_append, List.length_cons, List.length_nil]; omega)) only [go_sem, reduceCtorEq, Nat.reduceEqDiff, Nat.reduceAdd, Nat.reduceSub, Nat.reduceMul, Nat.reduceLeDiff, Int.reduceLT, Int.reduceLE, Int.reduceEq, ↓reduceIte, Int.reduceNeg, Int.reduceAdd, Int.reduceSub, Int.reduceMul, true_imp_iff, forall_const, Nat.mul_one, Int.reduceToNat, Nat.reducePow, Int.reducePow, Bool.true_and, Bool.false_and, Bool.and_false, hf, t37, ←hF]
          refine (hI _ (t3b _ _ _)).mono ?_
          rintro w σ1 ⟨rfl, rfl⟩
          rw [s3b]
          simp (disch := first | assumption | omega | (simp only [List.length_append, List.length_cons, List.length_nil]; omega)) only [go_sem, reduceCtorEq, Nat.reduceEqDiff, Nat.reduceAdd, Nat.reduceSub, Nat.reduceMul, Nat.reduceLeDiff, Int.reduceLT, Int.reduceLE, Int.reduceEq, ↓reduceIte, Int.reduceNeg, Int.reduceAdd, Int.reduceSub, Int.reduceMul, true_imp_iff, forall_const, Nat.mul_one, Int.reduceToNat, Nat.reducePow, Int.reducePow, Bool.true_and, Bool.false_and, Bool.and_false, hf, t37, s37, ←hF]
          refine fin 0 [] r .zero 0 ok P E _ hh ?_
          simp (disch := first | assumption | omega | (simp only [List.length_append, List.length_cons, List.length_nil]; omega)) only [go_sem, reduceCtorEq, Nat.reduceEqDiff, Nat.reduceAdd, Nat.reduceSub, Nat.reduceMul, Nat.reduceLeDiff, Int.reduceLT, Int.reduceLE, Int.reduceEq, ↓reduceIte, Int.reduceNeg, Int.reduceAdd, Int.reduceSub, Int.reduceMul, true_imp_iff, forall_const, Nat.mul_one, Int.reduceToNat, Nat.reducePow, Int.reducePow, Bool.true_and, Bool.false_and, Bool.and_false, hf]
        by_cases h6 : op = 6
        · have hh : headR s op p1 = ⟨0, [], (refR s p1 0).1.1, (refR s (refR s p1 0).2.1 (refR s p1 0).2.2).1.1, 0, (refR s (refR s p1 0).2.1 (refR s p1 0).2.2).1.2 && (refR s p1 0).1.2, (refR s (refR s p1 0).2.1 (refR s p1 0).2.2).2.1, (refR s (refR s p1 0).2.1 (refR s p1 0).2.2).2.2⟩ := by
            unfold headR; rw [if_neg h134, if_neg h2, if_neg h5, if_pos h6]
          have ha : arity op = 0 := by unfold arity; rw [if_neg (by omega), if_neg (by omega)]
          rw [ha] at hf
          have hI := fun τ h => getref_ok s p1 0 b τ h hs f2
          have r1 := refR_facts s p1 0 f2
          generalize refR s p1 0 = V at *
          obtain ⟨⟨r, ok⟩, P, E⟩ := V
          dsimp only at hh hI r1
          have hJ := fun τ h => getref_ok s P E b τ h hs r1
          generalize refR s P E = V at *
          obtain ⟨⟨r', ok'⟩, P', E'⟩ := V
          dsimp only at hh hJ
          unfold refAV at hI hJ
          subst h6
          simp (disch := first | assumption | omega | (simp only [List.length_append, List.length_cons, List.length_nil]; omega)) only [go_sem, reduceCtorEq, Nat.reduceEqDiff, Nat.reduceAdd, Nat.reduceSub, Nat.reduceMul, Nat.reduceLeDiff, Int.reduceLT, Int.reduceLE, Int.reduceEq, ↓reduceIte, Int.reduceNeg, Int.reduceAdd, Int.reduceSub, Int.reduceMul, true_imp_iff, forall_const, Nat.mul_one, Int.reduceToNat, Nat.reducePow, Int.reducePow, Bool.true_and, Bool.false_and, Bool.and_false, hf, t37, ←hF]
          refine (hI _ (t3b _ _ _)).mono ?_
          rintro w σ1 ⟨rfl, rfl⟩
          rw [s3b]
          simp (disch := first | assumption | omega | (simp only [List.length_append, List.length_cons, List.length_nil]; omega)) only [go_sem, reduceCtorEq, Nat.reduceEqDiff, Nat.reduceAdd, Nat.reduceSub, Nat.reduceMul, Nat.reduceLeDiff, Int.reduceLT, Int.reduceLE, Int.reduceEq, ↓reduceIte, Int.reduceNeg, Int.reduceAdd, Int.reduceSub, Int.reduceMul, true_imp_iff, forall_const, Nat.mul_one, Int.reduceToNat, Nat.reducePow, Int.reducePow, Bool.true_and, Bool.false_and, Bool.and_false, hf, t37, s37, ←hF]
          refine (hJ _ (t3b _ _ _)).mono ?_
          rintro w σ1 ⟨rfl, rfl⟩
          rw [s3b]
          cases ok'
          all_goals
            simp (disch := first | assumption | omega | (simp only [List.length_append, List.length_cons, List.length_nil]; omega)) only [go_sem, reduceCtorEq, Nat.reduceEqDiff, Nat.reduceAdd, Nat.reduceSub, Nat.reduceMul, Nat.reduceLeDiff, Int.reduceLT, Int.reduceLE, Int.reduceEq, ↓reduceIte, Int.reduceNeg, Int.reduceAdd, Int.reduceSub, Int.reduceMul, true_imp_iff, forall_const, Nat.mul_one, Int.reduceToNat, Nat.reducePow, Int.reducePow, Bool.true_and, Bool.false_and, Bool.and_false, hf, t37, s37, ←hF]
            refine fin 0 [] r r' 0 _ P' E' _ hh ?_
            simp (disch := first | assumption | omega | (simp only [List.length_append, List.length_cons, List.length_nil]; omega)) only [go_sem, reduceCtorEq, Nat.reduceEqDiff, Nat.reduceAdd, Nat.reduceSub, Nat.reduceMul, Nat.reduceLeDiff, Int.reduceLT, Int.reduceLE, Int.reduceEq, ↓reduceIte, Int.reduceNeg, Int.reduceAdd, Int.reduceSub, Int.reduceMul, true_imp_iff, forall_const, Nat.mul_one, Int.reduceToNat, Nat.reducePow, Int.reducePow, Bool.true_and, Bool.false_and, Bool.and_false, hf]
        by_cases h22 : op = 22
        · have hh : headR s op p1 = ⟨0, (rtxP s p1 0 2000).1, .zero, .zero, min (readU s (rtxP s p1 0 2000).2.1 (rtxP s p1 0 2000).2.2).1 2001, nameOkP (rtxP s p1 0 2000).1 && decide (min (readU s (rtxP s p1 0 2000).2.1 (rtxP s p1 0 2000).2.2).1 2001 ≤ 2000),
              (readU s (rtxP s p1 0 2000).2.1 (rtxP s p1 0 2000).2.2).2.1, (readU s (rtxP s p1 0 2000).2.1 (rtxP s p1 0 2000).2.2).2.2⟩ := by
            unfold headR; rw [if_neg h134, if_neg h2, if_neg h5, if_neg h6, if_pos h22]
          have hI := fun τ h => rtext_ok s p1 0 2000 b τ h hs2 f2 (by omega)
          obtain ⟨w1, w2⟩ := rtxP_facts s p1 2000 f2
          rw [e2000] at hI
          generalize rtxP s p1 0 2000 = V at *
          obtain ⟨t, P, E⟩ := V
          dsimp only at hh hI w1 w2
          have hS := fun τ h => ename_ok (σ := τ) h t (by omega)
          have hJ := fun τ h => ruint_ok s P E b τ h hs2 w1
          obtain ⟨w3, _⟩ := readU_facts s P E w1
          generalize readU s P E = V at *
          obtain ⟨c, P', E'⟩ := V
          dsimp only at hh hJ w3
          have hmn : min (c : Int) 2001 = ((min c 2001 : Nat) : Int) := by omega
          generalize hc : min c 2001 = cnt at *
          have hcw : IntKind.wrap .i64 (cnt : Int) = cnt := by rw [IntKind.wrap_i64]; omega
          have hdc : decide ((cnt : Int) ≤ 2000) = decide (cnt ≤ 2000) := decide_eq_decide.2 (by omega)
          subst h22
          simp (disch := first | assumption | omega | (simp only [List.length_append, List.length_cons, List.length_nil]; omega)) only [go_sem, reduceCtorEq, Nat.reduceEqDiff, Nat.reduceAdd, Nat.reduceSub, Nat.reduceMul, Nat.reduceLeDiff, Int.reduceLT, Int.reduceLE, Int.reduceEq, ↓reduceIte, Int.reduceNeg, Int.reduceAdd, Int.reduceSub, Int.reduceMul, true_imp_iff, forall_const, Nat.mul_one, Int.reduceToNat, Nat.reducePow, Int.reducePow, Bool.true_and, Bool.false_and, Bool.and_false, hf, t37, ←hF]
          refine (hI _ (t3b _ _ _)).mono ?_
          rintro w σ1 ⟨rfl, rfl⟩
          rw [s3b]
          simp (disch := first | assumption | omega | (simp only [List.length_append, List.length_cons, List.length_nil]; omega)) only [go_sem, reduceCtorEq, Nat.reduceEqDiff, Nat.reduceAdd, Nat.reduceSub, Nat.reduceMul, Nat.reduceLeDiff, Int.reduceLT, Int.reduceLE, Int.reduceEq, ↓reduceIte, Int.reduceNeg, Int.reduceAdd, Int.reduceSub, Int.reduceMul, true_imp_iff, forall_const, Nat.mul_one, Int.reduceToNat, Nat.reducePow, Int.reducePow, Bool.true_and, Bool.false_and, Bool.and_false, hf, t37, s37, ←hF]
          refine (hJ _ (t3b _ _ _)).mono ?_
          rintro w σ1 ⟨rfl, rfl⟩
          rw [s3b]
          simp (disch := first | assumption | omega | (simp only [List.length_append, List.length_cons, List.length_nil]; omega)) only [go_sem, reduceCtorEq, Nat.reduceEqDiff, Nat.reduceAdd, Nat.reduceSub, Nat.reduceMul, Nat.reduceLeDiff, Int.reduceLT, Int.reduceLE, Int.reduceEq, ↓reduceIte, Int.reduceNeg, Int.reduceAdd, Int.reduceSub, Int.reduceMul, true_imp_iff, forall_const, Nat.mul_one, Int.reduceToNat, Nat.reducePow, Int.reducePow, Bool.true_and, Bool.false_and, Bool.and_false, hf, t37, hmn, ←hF]
          refine (hS _ (U3 _ _ _)).mono ?_
          rintro w σ1 ⟨rfl, rfl⟩
          cases hno : nameOkP t with
          | false =>
            rw [hno] at hh
            simp (disch := first | assumption | omega | (simp only [List.length_append, List.length_cons, List.length_nil]; omega)) only [go_sem, reduceCtorEq, Nat.reduceEqDiff, Nat.reduceAdd, Nat.reduceSub, Nat.reduceMul, Nat.reduceLeDiff, Int.reduceLT, Int.reduceLE, Int.reduceEq, ↓reduceIte, Int.reduceNeg, Int.reduceAdd, Int.reduceSub, Int.reduceMul, true_imp_iff, forall_const, Nat.mul_one, Int.reduceToNat, Nat.reducePow, Int.reducePow, Bool.true_and, Bool.false_and, Bool.and_false, hf, ←hF]
            refine fin 0 t .zero .zero cnt false P' E' _ hh ?_
            simp (disch := first | assumption | omega | (simp only [List.length_append, List.length_cons, List.length_nil]; omega)) only [go_sem, reduceCtorEq, Nat.reduceEqDiff, Nat.reduceAdd, Nat.reduceSub, Nat.reduceMul, Nat.reduceLeDiff, Int.reduceLT, Int.reduceLE, Int.reduceEq, ↓reduceIte, Int.reduceNeg, Int.reduceAdd, Int.reduceSub, Int.reduceMul, true_imp_iff, forall_const, Nat.mul_one, Int.reduceToNat, Nat.reducePow, Int.reducePow, Bool.true_and, Bool.false_and, Bool.and_false, hf]
          | true =>
            rw [hno, Bool.true_and] at hh
            simp (disch := first | assumption | omega | (simp only [List.length_append, List.length_cons, List.length_nil]; omega)) only [go_sem, reduceCtorEq, Nat.reduceEqDiff, Nat.reduceAdd, Nat.reduceSub, Nat.reduceMul, Nat.reduceLeDiff, Int.reduceLT, Int.reduceLE, Int.reduceEq, ↓reduceIte, Int.reduceNeg, Int.reduceAdd, Int.reduceSub, Int.reduceMul, true_imp_iff, forall_const, Nat.mul_one, Int.reduceToNat, Nat.reducePow, Int.reducePow, Bool.true_and, Bool.false_and, Bool.and_false, hf, hdc, ←hF]
            refine fin 0 t .zero .zero cnt (decide (cnt ≤ 2000)) P' E' _ hh ?_
            simp (disch := first | assumption | omega | (simp only [List.length_append, List.length_cons, List.length_nil]; omega)) only [go_sem, reduceCtorEq, Nat.reduceEqDiff, Nat.reduceAdd, Nat.reduceSub, Nat.reduceMul, Nat.reduceLeDiff, Int.reduceLT, Int.reduceLE, Int.reduceEq, ↓reduceIte, Int.reduceNeg, Int.reduceAdd, Int.reduceSub, Int.reduceMul, true_imp_iff, forall_const, Nat.mul_one, Int.reduceToNat, Nat.reducePow, Int.reducePow, Bool.true_and, Bool.false_and, Bool.and_false, hf]
        have hh : headR s op p1 = ⟨0, [], .zero, .zero, arity op, true, p1, 0⟩ := by unfold headR; rw [if_neg h134, if_neg h2, if_neg h5, if_neg h6, if_neg h22]
        simp (disch := first | assumption | omega | (simp only [List.length_append, List.length_cons, List.length_nil]; omega)) only [go_sem, reduceCtorEq, Nat.reduceEqDiff, Nat.reduceAdd, Nat.reduceSub, Nat.reduceMul, Nat.reduceLeDiff, Int.reduceLT, Int.reduceLE, Int.reduceEq, ↓reduceIte, Int.reduceNeg, Int.reduceAdd, Int.reduceSub, Int.reduceMul, true_imp_iff, forall_const, Nat.mul_one, Int.reduceToNat, Nat.reducePow, Int.reducePow, Bool.true_and, Bool.false_and, Bool.and_false, hf, g1, g3, g4, h2, h5, h6, h22, t37, ←hF]
        refine fin 0 [] .zero .zero (arity op) true p1 0 _ hh ?_
        simp (disch := first | assumption | omega | (simp only [List.length_append, List.length_cons, List.length_nil]; omega)) only [go_sem, reduceCtorEq, Nat.reduceEqDiff, Nat.reduceAdd, Nat.reduceSub, Nat.reduceMul, Nat.reduceLeDiff, Int.reduceLT, Int.reduceLE, Int.reduceEq, ↓reduceIte, Int.reduceNeg, Int.reduceAdd, Int.reduceSub, Int.reduceMul, true_imp_iff, forall_const, Nat.mul_one, Int.reduceToNat, Nat.reducePow, Int.reducePow, Bool.true_and, Bool.false_and, Bool.and_false, hf]
      clear fin
      rw [hZ12] at brs
      unfold zero12 at brs
      simp (disch := first | assumption | omega | (simp only [List.length_append, List.length_cons, List.length_nil]; omega)) only [go_sem, reduceCtorEq, Nat.reduceEqDiff, Nat.reduceAdd, Nat.reduceSub, Nat.reduceMul, Nat.reduceLeDiff, Int.reduceLT, Int.reduceLE, Int.reduceEq, ↓reduceIte, Int.reduceNeg, Int.reduceAdd, Int.reduceSub, Int.reduceMul, true_imp_iff, forall_const, Nat.mul_one, Int.reduceToNat, Nat.reducePow, Int.reducePow, Bool.true_and, Bool.false_and, Bool.and_false, hT3, s37, t37, ←hB, ←hF]
      refine hki.use ?_
      simp (disch := first | assumption | omega | (simp only [List.length_append, List.length_cons, List.length_nil]; omega)) only [go_sem, reduceCtorEq, Nat.reduceEqDiff, Nat.reduceAdd, Nat.reduceSub, Nat.reduceMul, Nat.reduceLeDiff, Int.reduceLT, Int.reduceLE, Int.reduceEq, ↓reduceIte, Int.reduceNeg, Int.reduceAdd, Int.reduceSub, Int.reduceMul, true_imp_iff, forall_const, Nat.mul_one, Int.reduceToNat, Nat.reducePow, Int.reducePow, Bool.true_and, Bool.false_and, Bool.and_false, ←hB, ←hF]
      refine brs _ ?_
      simp (disch := first | assumption | omega | (simp only [List.length_append, List.length_cons, List.length_nil]; omega)) only [go_sem, reduceCtorEq, Nat.reduceEqDiff, Nat.reduceAdd, Nat.reduceSub, Nat.reduceMul, Nat.reduceLeDiff, Int.reduceLT, Int.reduceLE, Int.reduceEq, ↓reduceIte, Int.reduceNeg, Int.reduceAdd, Int.reduceSub, Int.reduceMul, true_imp_iff, forall_const, Nat.mul_one, Int.reduceToNat, Nat.reducePow, Int.reducePow, Bool.true_and, Bool.false_and, Bool.and_false]
    · rw [if_pos he] at hR
      subst hR
      simp (disch := first | assumption | omega | (simp only [List.length_append, List.length_cons, List.length_nil]; omega)) only [go_sem, reduceCtorEq, Nat.reduceEqDiff, Nat.reduceAdd, Nat.reduceSub, Nat.reduceMul, Nat.reduceLeDiff, Int.reduceLT, Int.reduceLE, Int.reduceEq, ↓reduceIte, Int.reduceNeg, Int.reduceAdd, Int.reduceSub, Int.reduceMul, true_imp_iff, forall_const, Nat.mul_one, Int.reduceToNat, Nat.reducePow, Int.reducePow, Bool.true_and, Bool.false_and, Bool.and_false, he]
      refine (rerr_ok s p1 e1 b _ (t2b _ _)).mono ?_
      rintro v σ1 ⟨rfl, rfl⟩
      rw [hQ]
      simp (disch := first | assumption | omega | (simp only [List.length_append, List.length_cons, List.length_nil]; omega)) only [go_sem, reduceCtorEq, Nat.reduceEqDiff, Nat.reduceAdd, Nat.reduceSub, Nat.reduceMul, Nat.reduceLeDiff, Int.reduceLT, Int.reduceLE, Int.reduceEq, ↓reduceIte, Int.reduceNeg, Int.reduceAdd, Int.reduceSub, Int.reduceMul, true_imp_iff, forall_const, Nat.mul_one, Int.reduceToNat, Nat.reducePow, Int.reducePow, Bool.true_and, Bool.false_and, Bool.and_false, t24, s24]
      exact retC_by (d2 _ _) (.refl _) ⟨rfl, rfl⟩
end Go.A
