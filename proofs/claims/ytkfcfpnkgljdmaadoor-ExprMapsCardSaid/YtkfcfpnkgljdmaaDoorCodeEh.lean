/- The functions, compiled: by program (wip/gencode.py). -/
import Derived.Test.YtkfcfpnkgljdmaaDoorBk
import Derived.Test.YtkfcfpnkgljdmaaDoorProg
import Derived.KernelRfl
namespace Go.A
open Go.Proofs

/-! 11: tabular/expr.Map -/
def c11_0 : ACode := .ops [
    ⟨(some 2), none, .e (.box (.t 0)), []⟩,
    ⟨(some 4), none, .e (.alloc [(.int .i64 0), (.int .i64 0), (.str []), (.int .i64 0), (.int .i64 0), (.bool false), (.bool false), (.int .i64 0), (.int .i64 0), (.bool false), (.bool false), (.sl .full [])]), []⟩]
def c11_1 : ACode := .ops [
    ⟨(some 8), none, .q (.fa 0 (.t 2)), []⟩,
    ⟨(some 9), none, .q (.ld none (.t 8)), []⟩,
    ⟨(some 10), none, .q (.bin .eql (.t 9) (.v (.int .i64 5))), []⟩,
    ⟨(some 11), none, .q (.mv (.t 10)), []⟩,
    ⟨(some 12), (some (11, false)), .q (.fa 0 (.t 2)), []⟩,
    ⟨(some 13), (some (11, false)), .q (.ld none (.t 12)), []⟩,
    ⟨(some 14), (some (11, false)), .q (.bin .eql (.t 13) (.v (.int .i64 6))), []⟩,
    ⟨(some 15), none, .q (.pick (.t 11) (.v (.bool true)) (.t 14)), []⟩]
def c11_2 : ACode := .ops [
    ⟨(some 16), none, .q (.mv (.t 1)), []⟩,
    ⟨(some 17), none, .q (.ld (some 12) (.t 2)), []⟩,
    ⟨(some 18), none, .e (.callv (.t 16) [(.t 17)]), []⟩,
    ⟨none, none, .e (.store 12 (.t 4) (.t 18)), []⟩]
def c11_3 : ACode := .seq c11_2 .ret
def c11_4 : ACode := .cond (.t 15) c11_3 .skip
def c11_5 : ACode := .seq c11_1 c11_4
def c11_6 : ACode := .ops [
    ⟨(some 19), none, .q (.fa 11 (.t 2)), []⟩,
    ⟨(some 20), none, .q (.ld none (.t 19)), []⟩,
    ⟨(some 21), none, .q (.len (.t 20)), []⟩,
    ⟨(some 22), none, .q (.bin .gtr (.t 21) (.v (.int .i64 0))), []⟩]
def c11_7 : ACode := .ops [
    ⟨(some 23), none, .q (.fa 11 (.t 2)), []⟩,
    ⟨(some 24), none, .q (.ld none (.t 23)), []⟩,
    ⟨(some 25), none, .q (.len (.t 24)), []⟩,
    ⟨(some 26), none, .e (.mkb 28 104 [(.int .i64 0), (.int .i64 0), (.str []), (.int .i64 0), (.int .i64 0), (.bool false), (.bool false), (.int .i64 0), (.int .i64 0), (.bool false), (.bool false), (.sl .full [])] (.t 25) (.t 25)), []⟩,
    ⟨(some 5), none, .q (.mv (.t 26)), []⟩]
def c11_8 : ACode := .ops [
    ⟨(some 27), none, .q (.fa 11 (.t 2)), []⟩,
    ⟨(some 28), none, .q (.ld none (.t 27)), []⟩,
    ⟨(some 29), none, .q (.len (.t 28)), []⟩,
    ⟨(some 30), none, .q (.mv (.v (.int .i64 0))), []⟩]
def c11_9 : ACode := .ops [
    ⟨(some 31), none, .q (.bin .lss (.t 30) (.t 29)), []⟩]
def c11_10 : ACode := .cond (.t 31) .skip (.exit 0)
def c11_11 : ACode := .ops [
    ⟨(some 32), none, .q (.mv (.t 30)), []⟩,
    ⟨(some 33), none, .q (.ia 12 (.t 28) (.t 30)), []⟩,
    ⟨(some 34), none, .q (.ld (some 12) (.t 33)), []⟩,
    ⟨(some 7), none, .e (.alloc [(.int .i64 0), (.int .i64 0), (.str []), (.int .i64 0), (.int .i64 0), (.bool false), (.bool false), (.int .i64 0), (.int .i64 0), (.bool false), (.bool false), (.sl .full [])]), []⟩,
    ⟨(some 6), none, .q (.mv (.t 32)), []⟩,
    ⟨none, none, .e (.store 12 (.t 7) (.t 34)), []⟩]
def c11_12 : ACode := .ops [
    ⟨(some 35), none, .q (.mv (.t 5)), []⟩,
    ⟨(some 36), none, .q (.mv (.t 6)), []⟩,
    ⟨(some 37), none, .q (.ld (some 12) (.t 7)), []⟩,
    ⟨(some 38), none, .q (.mv (.t 1)), []⟩,
    ⟨(some 39), none, .e (.call 11 [(.t 37), (.t 38)]), []⟩,
    ⟨(some 40), none, .q (.ia 12 (.t 35) (.t 36)), []⟩,
    ⟨none, none, .e (.store 12 (.t 40) (.t 39)), []⟩]
def c11_13 : ACode := .seq c11_11 c11_12
def c11_14 : ACode := .block 1 c11_13
def c11_15 : ACode := .ops [
    ⟨(some 41), none, .q (.bin .add (.t 30) (.v (.int .i64 1))), []⟩,
    ⟨(some 30), none, .q (.mv (.t 41)), []⟩]
def c11_16 : ACode := .seq c11_14 c11_15
def c11_17 : ACode := .seq c11_10 c11_16
def c11_18 : ACode := .seq c11_9 c11_17
def c11_19 : ACode := .loop c11_18
def c11_20 : ACode := .block 0 c11_19
def c11_21 : ACode := .seq c11_8 c11_20
def c11_22 : ACode := .ops [
    ⟨(some 42), none, .q (.mv (.t 5)), []⟩,
    ⟨(some 43), none, .q (.fa 11 (.t 2)), []⟩,
    ⟨none, none, .e (.store 1 (.t 43) (.t 42)), []⟩]
def c11_23 : ACode := .seq c11_21 c11_22
def c11_24 : ACode := .seq c11_7 c11_23
def c11_25 : ACode := .cond (.t 22) c11_24 .skip
def c11_26 : ACode := .seq c11_6 c11_25
def c11_27 : ACode := .ops [
    ⟨(some 44), none, .q (.ld (some 12) (.t 2)), []⟩,
    ⟨none, none, .e (.store 12 (.t 4) (.t 44)), []⟩]
def c11_28 : ACode := .seq c11_27 .ret
def c11_29 : ACode := .seq c11_26 c11_28
def c11_30 : ACode := .seq c11_5 c11_29
def c11_31 : ACode := .seq c11_0 c11_30
@[go_sem] theorem c11_0_wp : type_of% (wp_of c11_0.eq_1) := wp_of c11_0.eq_1
@[go_sem] theorem c11_1_wp : type_of% (wp_of c11_1.eq_1) := wp_of c11_1.eq_1
@[go_sem] theorem c11_2_wp : type_of% (wp_of c11_2.eq_1) := wp_of c11_2.eq_1
@[go_sem] theorem c11_3_wp : type_of% (wp_of c11_3.eq_1) := wp_of c11_3.eq_1
@[go_sem] theorem c11_4_wp : type_of% (wp_of c11_4.eq_1) := wp_of c11_4.eq_1
@[go_sem] theorem c11_5_wp : type_of% (wp_of c11_5.eq_1) := wp_of c11_5.eq_1
@[go_sem] theorem c11_6_wp : type_of% (wp_of c11_6.eq_1) := wp_of c11_6.eq_1
@[go_sem] theorem c11_7_wp : type_of% (wp_of c11_7.eq_1) := wp_of c11_7.eq_1
@[go_sem] theorem c11_8_wp : type_of% (wp_of c11_8.eq_1) := wp_of c11_8.eq_1
@[go_sem] theorem c11_9_wp : type_of% (wp_of c11_9.eq_1) := wp_of c11_9.eq_1
@[go_sem] theorem c11_10_wp : type_of% (wp_of c11_10.eq_1) := wp_of c11_10.eq_1
@[go_sem] theorem c11_11_wp : type_of% (wp_of c11_11.eq_1) := wp_of c11_11.eq_1
@[go_sem] theorem c11_12_wp : type_of% (wp_of c11_12.eq_1) := wp_of c11_12.eq_1
@[go_sem] theorem c11_13_wp : type_of% (wp_of c11_13.eq_1) := wp_of c11_13.eq_1
@[go_sem] theorem c11_14_wp : type_of% (wp_of c11_14.eq_1) := wp_of c11_14.eq_1
@[go_sem] theorem c11_15_wp : type_of% (wp_of c11_15.eq_1) := wp_of c11_15.eq_1
@[go_sem] theorem c11_16_wp : type_of% (wp_of c11_16.eq_1) := wp_of c11_16.eq_1
@[go_sem] theorem c11_17_wp : type_of% (wp_of c11_17.eq_1) := wp_of c11_17.eq_1
@[go_sem] theorem c11_18_wp : type_of% (wp_of c11_18.eq_1) := wp_of c11_18.eq_1
@[go_sem] theorem c11_19_wp : type_of% (wp_of c11_19.eq_1) := wp_of c11_19.eq_1
@[go_sem] theorem c11_20_wp : type_of% (wp_of c11_20.eq_1) := wp_of c11_20.eq_1
@[go_sem] theorem c11_21_wp : type_of% (wp_of c11_21.eq_1) := wp_of c11_21.eq_1
@[go_sem] theorem c11_22_wp : type_of% (wp_of c11_22.eq_1) := wp_of c11_22.eq_1
@[go_sem] theorem c11_23_wp : type_of% (wp_of c11_23.eq_1) := wp_of c11_23.eq_1
@[go_sem] theorem c11_24_wp : type_of% (wp_of c11_24.eq_1) := wp_of c11_24.eq_1
@[go_sem] theorem c11_25_wp : type_of% (wp_of c11_25.eq_1) := wp_of c11_25.eq_1
@[go_sem] theorem c11_26_wp : type_of% (wp_of c11_26.eq_1) := wp_of c11_26.eq_1
@[go_sem] theorem c11_27_wp : type_of% (wp_of c11_27.eq_1) := wp_of c11_27.eq_1
@[go_sem] theorem c11_28_wp : type_of% (wp_of c11_28.eq_1) := wp_of c11_28.eq_1
@[go_sem] theorem c11_29_wp : type_of% (wp_of c11_29.eq_1) := wp_of c11_29.eq_1
@[go_sem] theorem c11_30_wp : type_of% (wp_of c11_30.eq_1) := wp_of c11_30.eq_1
@[go_sem] theorem c11_31_wp : type_of% (wp_of c11_31.eq_1) := wp_of c11_31.eq_1
def c11 : AFn := ⟨45, [.c 4 (some 12)], c11_31⟩
set_option maxRecDepth 100000 in
theorem c11_ok : compF Tryd.prog Tryd.f11 = some c11 := by kernel_rfl
theorem a11 {args : List AV} {σ : ASt} {R : AV → ASt → Prop} (hl : args.length ≤ 45) (h : c11_31.wp Tryd.prog (RetQ [.c 4 (some 12)] R) (init args) σ) : ACalls Tryd.prog 11 args σ R := acalls_of Tryd.func11 c11_ok hl h

/-! 14: tabular/expr.Areas -/
def c14_0 : ACode := .ops [
    ⟨(some 1), none, .e (.box (.t 0)), []⟩,
    ⟨(some 2), none, .q (.mv (.v (.sl .full []))), []⟩]
def c14_1 : ACode := .ops [
    ⟨(some 3), none, .e (.alloc [(.sl .full [])]), []⟩]
def c14_2 : ACode := .ops [
    ⟨(some 4), none, .q (.ld (some 12) (.t 1)), []⟩,
    ⟨(some 5), none, .e (.call 21 [(.t 4), (.t 3)]), []⟩]
def c14_3 : ACode := .ops [
    ⟨(some 6), none, .q (.ld none (.t 3)), []⟩,
    ⟨(some 2), none, .q (.mv (.t 6)), []⟩]
def c14_4 : ACode := .seq c14_3 .ret
def c14_5 : ACode := .seq c14_2 c14_4
def c14_6 : ACode := .seq c14_1 c14_5
def c14_7 : ACode := .seq c14_0 c14_6
@[go_sem] theorem c14_0_wp : type_of% (wp_of c14_0.eq_1) := wp_of c14_0.eq_1
@[go_sem] theorem c14_1_wp : type_of% (wp_of c14_1.eq_1) := wp_of c14_1.eq_1
@[go_sem] theorem c14_2_wp : type_of% (wp_of c14_2.eq_1) := wp_of c14_2.eq_1
@[go_sem] theorem c14_3_wp : type_of% (wp_of c14_3.eq_1) := wp_of c14_3.eq_1
@[go_sem] theorem c14_4_wp : type_of% (wp_of c14_4.eq_1) := wp_of c14_4.eq_1
@[go_sem] theorem c14_5_wp : type_of% (wp_of c14_5.eq_1) := wp_of c14_5.eq_1
@[go_sem] theorem c14_6_wp : type_of% (wp_of c14_6.eq_1) := wp_of c14_6.eq_1
@[go_sem] theorem c14_7_wp : type_of% (wp_of c14_7.eq_1) := wp_of c14_7.eq_1
def c14 : AFn := ⟨7, [.t 2], c14_7⟩
set_option maxRecDepth 100000 in
theorem c14_ok : compF Tryd.prog Tryd.f14 = some c14 := by kernel_rfl
theorem a14 {args : List AV} {σ : ASt} {R : AV → ASt → Prop} (hl : args.length ≤ 7) (h : c14_7.wp Tryd.prog (RetQ [.t 2] R) (init args) σ) : ACalls Tryd.prog 14 args σ R := acalls_of Tryd.func14 c14_ok hl h

/-! 15: tabular/expr.Same -/
def c15_0 : ACode := .ops [
    ⟨(some 2), none, .e (.box (.t 0)), []⟩,
    ⟨(some 3), none, .e (.box (.t 1)), []⟩,
    ⟨(some 4), none, .q (.mv (.v (.bool false))), []⟩]
def c15_1 : ACode := .ops [
    ⟨(some 5), none, .q (.fa 0 (.t 2)), []⟩,
    ⟨(some 6), none, .q (.ld none (.t 5)), []⟩,
    ⟨(some 7), none, .q (.fa 0 (.t 3)), []⟩,
    ⟨(some 8), none, .q (.ld none (.t 7)), []⟩,
    ⟨(some 9), none, .q (.bin .eql (.t 6) (.t 8)), []⟩,
    ⟨(some 10), none, .q (.mv (.t 9)), []⟩,
    ⟨(some 11), (some (10, true)), .q (.fa 1 (.t 2)), []⟩,
    ⟨(some 12), (some (10, true)), .q (.ld none (.t 11)), []⟩,
    ⟨(some 13), (some (10, true)), .q (.fa 1 (.t 3)), []⟩,
    ⟨(some 14), (some (10, true)), .q (.ld none (.t 13)), []⟩,
    ⟨(some 15), (some (10, true)), .q (.bin .eql (.t 12) (.t 14)), []⟩,
    ⟨(some 16), none, .q (.pick (.t 10) (.t 15) (.v (.bool false))), []⟩,
    ⟨(some 17), none, .q (.mv (.t 16)), []⟩,
    ⟨(some 18), (some (17, true)), .q (.fa 2 (.t 2)), []⟩,
    ⟨(some 19), (some (17, true)), .q (.ld none (.t 18)), []⟩,
    ⟨(some 20), (some (17, true)), .q (.fa 2 (.t 3)), []⟩,
    ⟨(some 21), (some (17, true)), .q (.ld none (.t 20)), []⟩,
    ⟨(some 22), (some (17, true)), .q (.bin .eql (.t 19) (.t 21)), []⟩,
    ⟨(some 23), none, .q (.pick (.t 17) (.t 22) (.v (.bool false))), []⟩,
    ⟨(some 24), none, .q (.mv (.t 23)), []⟩,
    ⟨(some 25), (some (24, true)), .q (.fa 3 (.t 2)), []⟩,
    ⟨(some 26), (some (24, true)), .q (.ld (some 4) (.t 25)), []⟩,
    ⟨(some 27), (some (24, true)), .q (.fa 3 (.t 3)), []⟩,
    ⟨(some 28), (some (24, true)), .q (.ld (some 4) (.t 27)), []⟩,
    ⟨(some 29), (some (24, true)), .q (.eqs false [(0, 0), (1, 0), (2, 1), (3, 1)] (.t 26) (.t 28)), []⟩,
    ⟨(some 30), none, .q (.pick (.t 24) (.t 29) (.v (.bool false))), []⟩,
    ⟨(some 31), none, .q (.mv (.t 30)), []⟩,
    ⟨(some 32), (some (31, true)), .q (.fa 7 (.t 2)), []⟩,
    ⟨(some 33), (some (31, true)), .q (.ld (some 4) (.t 32)), []⟩,
    ⟨(some 34), (some (31, true)), .q (.fa 7 (.t 3)), []⟩,
    ⟨(some 35), (some (31, true)), .q (.ld (some 4) (.t 34)), []⟩,
    ⟨(some 36), (some (31, true)), .q (.eqs false [(0, 0), (1, 0), (2, 1), (3, 1)] (.t 33) (.t 35)), []⟩,
    ⟨(some 37), none, .q (.pick (.t 31) (.t 36) (.v (.bool false))), []⟩,
    ⟨(some 38), none, .q (.mv (.t 37)), []⟩,
    ⟨(some 39), (some (38, true)), .q (.fa 11 (.t 2)), []⟩,
    ⟨(some 40), (some (38, true)), .q (.ld none (.t 39)), []⟩,
    ⟨(some 41), (some (38, true)), .q (.fa 11 (.t 3)), []⟩,
    ⟨(some 42), (some (38, true)), .q (.ld none (.t 41)), []⟩,
    ⟨(some 43), (some (38, true)), .e (.call 22 [(.t 40), (.t 42), (.v (.func (.func 15) [] []))]), []⟩,
    ⟨(some 44), none, .q (.pick (.t 38) (.t 43) (.v (.bool false))), []⟩,
    ⟨(some 4), none, .q (.mv (.t 44)), []⟩]
def c15_2 : ACode := .seq c15_1 .ret
def c15_3 : ACode := .seq c15_0 c15_2
@[go_sem] theorem c15_0_wp : type_of% (wp_of c15_0.eq_1) := wp_of c15_0.eq_1
@[go_sem] theorem c15_1_wp : type_of% (wp_of c15_1.eq_1) := wp_of c15_1.eq_1
@[go_sem] theorem c15_2_wp : type_of% (wp_of c15_2.eq_1) := wp_of c15_2.eq_1
@[go_sem] theorem c15_3_wp : type_of% (wp_of c15_3.eq_1) := wp_of c15_3.eq_1
def c15 : AFn := ⟨45, [.t 4], c15_3⟩
set_option maxRecDepth 100000 in
theorem c15_ok : compF Tryd.prog Tryd.f15 = some c15 := by kernel_rfl
theorem a15 {args : List AV} {σ : ASt} {R : AV → ASt → Prop} (hl : args.length ≤ 45) (h : c15_3.wp Tryd.prog (RetQ [.t 4] R) (init args) σ) : ACalls Tryd.prog 15 args σ R := acalls_of Tryd.func15 c15_ok hl h

/-! 16: (tabular/addr.Ref).Rect -/
def c16_0 : ACode := .ops [
    ⟨(some 1), none, .e (.box (.t 0)), []⟩,
    ⟨(some 2), none, .e (.alloc [(.int .i64 0), (.int .i64 0), (.int .i64 0), (.int .i64 0)]), []⟩]
def c16_1 : ACode := .ops [
    ⟨(some 3), none, .q (.fa 0 (.t 1)), []⟩,
    ⟨(some 4), none, .q (.ld none (.t 3)), []⟩,
    ⟨(some 5), none, .q (.fa 1 (.t 1)), []⟩,
    ⟨(some 6), none, .q (.ld none (.t 5)), []⟩,
    ⟨(some 7), none, .q (.build [(.int .i64 0), (.int .i64 0), (.int .i64 0), (.int .i64 0)] [(0, 1, (.t 4)), (1, 1, (.t 6)), (2, 1, (.v (.int .i64 1))), (3, 1, (.v (.int .i64 1)))]), []⟩,
    ⟨none, none, .e (.store 4 (.t 2) (.t 7)), []⟩]
def c16_2 : ACode := .seq c16_1 .ret
def c16_3 : ACode := .seq c16_0 c16_2
@[go_sem] theorem c16_0_wp : type_of% (wp_of c16_0.eq_1) := wp_of c16_0.eq_1
@[go_sem] theorem c16_1_wp : type_of% (wp_of c16_1.eq_1) := wp_of c16_1.eq_1
@[go_sem] theorem c16_2_wp : type_of% (wp_of c16_2.eq_1) := wp_of c16_2.eq_1
@[go_sem] theorem c16_3_wp : type_of% (wp_of c16_3.eq_1) := wp_of c16_3.eq_1
def c16 : AFn := ⟨8, [.c 2 (some 4)], c16_3⟩
set_option maxRecDepth 100000 in
theorem c16_ok : compF Tryd.prog Tryd.f16 = some c16 := by kernel_rfl
theorem a16 {args : List AV} {σ : ASt} {R : AV → ASt → Prop} (hl : args.length ≤ 8) (h : c16_3.wp Tryd.prog (RetQ [.c 2 (some 4)] R) (init args) σ) : ACalls Tryd.prog 16 args σ R := acalls_of Tryd.func16 c16_ok hl h

/-! 21: tabular/expr.areas -/
def c21_0 : ACode := .ops [
    ⟨(some 2), none, .e (.box (.t 0)), []⟩]
def c21_1 : ACode := .ops [
    ⟨(some 8), none, .q (.build [(.int .i64 0), (.int .i64 0), (.int .i64 0), (.int .i64 0)] []), []⟩,
    ⟨(some 4), none, .e (.alloc [(.int .i64 0), (.int .i64 0), (.int .i64 0), (.int .i64 0)]), []⟩,
    ⟨none, none, .e (.store 4 (.t 4) (.t 8)), []⟩,
    ⟨(some 5), none, .q (.mv (.v (.bool true))), []⟩]
def c21_2 : ACode := .ops [
    ⟨(some 9), none, .q (.fa 0 (.t 2)), []⟩,
    ⟨(some 10), none, .q (.ld none (.t 9)), []⟩]
def c21_3 : ACode := .ops [
    ⟨(some 12), none, .q (.bin .eql (.t 10) (.v (.int .i64 5))), []⟩,
    ⟨(some 11), none, .q (.mv (.t 12)), []⟩]
def c21_4 : ACode := .ops [
    ⟨(some 13), none, .q (.fa 3 (.t 2)), []⟩,
    ⟨(some 14), none, .q (.ld (some 4) (.t 13)), []⟩,
    ⟨(some 15), none, .e (.call 16 [(.t 14)]), []⟩,
    ⟨none, none, .e (.store 4 (.t 4) (.t 15)), []⟩]
def c21_5 : ACode := .ops [
    ⟨(some 17), none, .q (.bin .eql (.t 10) (.v (.int .i64 6))), []⟩,
    ⟨(some 16), none, .q (.mv (.t 17)), []⟩]
def c21_6 : ACode := .ops [
    ⟨(some 18), none, .q (.fa 3 (.t 2)), []⟩,
    ⟨(some 19), none, .q (.ld (some 4) (.t 18)), []⟩,
    ⟨(some 20), none, .q (.fa 7 (.t 2)), []⟩,
    ⟨(some 21), none, .q (.ld (some 4) (.t 20)), []⟩,
    ⟨(some 22), none, .q (.build [(.int .i64 0), (.int .i64 0), (.bool false), (.bool false), (.int .i64 0), (.int .i64 0), (.bool false), (.bool false)] [(0, 4, (.t 19)), (4, 4, (.t 21))]), []⟩,
    ⟨(some 23), none, .e (.call 36 [(.t 22)]), []⟩,
    ⟨none, none, .e (.store 4 (.t 4) (.t 23)), []⟩]
def c21_7 : ACode := .ops [
    ⟨(some 5), none, .q (.mv (.v (.bool false))), []⟩]
def c21_8 : ACode := .cond (.t 16) c21_6 c21_7
def c21_9 : ACode := .seq c21_5 c21_8
def c21_10 : ACode := .cond (.t 11) c21_4 c21_9
def c21_11 : ACode := .seq c21_3 c21_10
def c21_12 : ACode := .block 0 c21_11
def c21_13 : ACode := .seq c21_2 c21_12
def c21_14 : ACode := .ops [
    ⟨(some 24), none, .q (.mv (.t 5)), []⟩,
    ⟨(some 25), none, .q (.mv (.t 24)), []⟩,
    ⟨(some 26), (some (25, true)), .q (.mv (.t 1)), []⟩,
    ⟨(some 27), (some (25, true)), .q (.nc (.t 26)), []⟩,
    ⟨(some 28), (some (25, true)), .q (.ld none (.t 27)), []⟩,
    ⟨(some 29), (some (25, true)), .q (.ld (some 4) (.t 4)), []⟩,
    ⟨(some 30), (some (25, true)), .e (.call 37 [(.t 28), (.t 29)]), []⟩,
    ⟨(some 31), (some (25, true)), .q (.un .not (.t 30)), []⟩,
    ⟨(some 32), none, .q (.pick (.t 25) (.t 31) (.v (.bool false))), []⟩]
def c21_15 : ACode := .ops [
    ⟨(some 33), none, .q (.mv (.t 1)), []⟩,
    ⟨(some 34), none, .q (.mv (.t 1)), []⟩,
    ⟨(some 35), none, .q (.nc (.t 34)), []⟩,
    ⟨(some 36), none, .q (.ld none (.t 35)), []⟩,
    ⟨(some 37), none, .q (.ld (some 4) (.t 4)), []⟩,
    ⟨(some 38), none, .q (.bsl 4 [(.t 37)]), []⟩,
    ⟨(some 39), none, .e (.app 43 4 32 [(.int .i64 0), (.int .i64 0), (.int .i64 0), (.int .i64 0)] (.t 36) (.t 38)), []⟩,
    ⟨(some 40), none, .q (.nc (.t 33)), []⟩,
    ⟨none, none, .e (.store 1 (.t 40) (.t 39)), []⟩]
def c21_16 : ACode := .cond (.t 32) c21_15 .skip
def c21_17 : ACode := .seq c21_14 c21_16
def c21_18 : ACode := .ops [
    ⟨(some 41), none, .q (.fa 11 (.t 2)), []⟩,
    ⟨(some 42), none, .q (.ld none (.t 41)), []⟩,
    ⟨(some 43), none, .q (.len (.t 42)), []⟩,
    ⟨(some 44), none, .q (.mv (.v (.int .i64 0))), []⟩]
def c21_19 : ACode := .ops [
    ⟨(some 45), none, .q (.bin .lss (.t 44) (.t 43)), []⟩]
def c21_20 : ACode := .cond (.t 45) .skip (.exit 1)
def c21_21 : ACode := .ops [
    ⟨(some 46), none, .q (.ia 12 (.t 42) (.t 44)), []⟩,
    ⟨(some 47), none, .q (.ld (some 12) (.t 46)), []⟩,
    ⟨(some 7), none, .e (.alloc [(.int .i64 0), (.int .i64 0), (.str []), (.int .i64 0), (.int .i64 0), (.bool false), (.bool false), (.int .i64 0), (.int .i64 0), (.bool false), (.bool false), (.sl .full [])]), []⟩,
    ⟨none, none, .e (.store 12 (.t 7) (.t 47)), []⟩]
def c21_22 : ACode := .ops [
    ⟨(some 48), none, .q (.ld (some 12) (.t 7)), []⟩,
    ⟨(some 49), none, .q (.mv (.t 1)), []⟩,
    ⟨(some 50), none, .e (.call 21 [(.t 48), (.t 49)]), []⟩]
def c21_23 : ACode := .seq c21_21 c21_22
def c21_24 : ACode := .block 2 c21_23
def c21_25 : ACode := .ops [
    ⟨(some 51), none, .q (.bin .add (.t 44) (.v (.int .i64 1))), []⟩,
    ⟨(some 44), none, .q (.mv (.t 51)), []⟩]
def c21_26 : ACode := .seq c21_24 c21_25
def c21_27 : ACode := .seq c21_20 c21_26
def c21_28 : ACode := .seq c21_19 c21_27
def c21_29 : ACode := .loop c21_28
def c21_30 : ACode := .block 1 c21_29
def c21_31 : ACode := .seq c21_18 c21_30
def c21_32 : ACode := .seq c21_17 c21_31
def c21_33 : ACode := .seq c21_13 c21_32
def c21_34 : ACode := .seq c21_1 c21_33
def c21_35 : ACode := .seq c21_0 c21_34
@[go_sem] theorem c21_0_wp : type_of% (wp_of c21_0.eq_1) := wp_of c21_0.eq_1
@[go_sem] theorem c21_1_wp : type_of% (wp_of c21_1.eq_1) := wp_of c21_1.eq_1
@[go_sem] theorem c21_2_wp : type_of% (wp_of c21_2.eq_1) := wp_of c21_2.eq_1
@[go_sem] theorem c21_3_wp : type_of% (wp_of c21_3.eq_1) := wp_of c21_3.eq_1
@[go_sem] theorem c21_4_wp : type_of% (wp_of c21_4.eq_1) := wp_of c21_4.eq_1
@[go_sem] theorem c21_5_wp : type_of% (wp_of c21_5.eq_1) := wp_of c21_5.eq_1
@[go_sem] theorem c21_6_wp : type_of% (wp_of c21_6.eq_1) := wp_of c21_6.eq_1
@[go_sem] theorem c21_7_wp : type_of% (wp_of c21_7.eq_1) := wp_of c21_7.eq_1
@[go_sem] theorem c21_8_wp : type_of% (wp_of c21_8.eq_1) := wp_of c21_8.eq_1
@[go_sem] theorem c21_9_wp : type_of% (wp_of c21_9.eq_1) := wp_of c21_9.eq_1
@[go_sem] theorem c21_10_wp : type_of% (wp_of c21_10.eq_1) := wp_of c21_10.eq_1
@[go_sem] theorem c21_11_wp : type_of% (wp_of c21_11.eq_1) := wp_of c21_11.eq_1
@[go_sem] theorem c21_12_wp : type_of% (wp_of c21_12.eq_1) := wp_of c21_12.eq_1
@[go_sem] theorem c21_13_wp : type_of% (wp_of c21_13.eq_1) := wp_of c21_13.eq_1
@[go_sem] theorem c21_14_wp : type_of% (wp_of c21_14.eq_1) := wp_of c21_14.eq_1
@[go_sem] theorem c21_15_wp : type_of% (wp_of c21_15.eq_1) := wp_of c21_15.eq_1
@[go_sem] theorem c21_16_wp : type_of% (wp_of c21_16.eq_1) := wp_of c21_16.eq_1
@[go_sem] theorem c21_17_wp : type_of% (wp_of c21_17.eq_1) := wp_of c21_17.eq_1
@[go_sem] theorem c21_18_wp : type_of% (wp_of c21_18.eq_1) := wp_of c21_18.eq_1
@[go_sem] theorem c21_19_wp : type_of% (wp_of c21_19.eq_1) := wp_of c21_19.eq_1
@[go_sem] theorem c21_20_wp : type_of% (wp_of c21_20.eq_1) := wp_of c21_20.eq_1
@[go_sem] theorem c21_21_wp : type_of% (wp_of c21_21.eq_1) := wp_of c21_21.eq_1
@[go_sem] theorem c21_22_wp : type_of% (wp_of c21_22.eq_1) := wp_of c21_22.eq_1
@[go_sem] theorem c21_23_wp : type_of% (wp_of c21_23.eq_1) := wp_of c21_23.eq_1
@[go_sem] theorem c21_24_wp : type_of% (wp_of c21_24.eq_1) := wp_of c21_24.eq_1
@[go_sem] theorem c21_25_wp : type_of% (wp_of c21_25.eq_1) := wp_of c21_25.eq_1
@[go_sem] theorem c21_26_wp : type_of% (wp_of c21_26.eq_1) := wp_of c21_26.eq_1
@[go_sem] theorem c21_27_wp : type_of% (wp_of c21_27.eq_1) := wp_of c21_27.eq_1
@[go_sem] theorem c21_28_wp : type_of% (wp_of c21_28.eq_1) := wp_of c21_28.eq_1
@[go_sem] theorem c21_29_wp : type_of% (wp_of c21_29.eq_1) := wp_of c21_29.eq_1
@[go_sem] theorem c21_30_wp : type_of% (wp_of c21_30.eq_1) := wp_of c21_30.eq_1
@[go_sem] theorem c21_31_wp : type_of% (wp_of c21_31.eq_1) := wp_of c21_31.eq_1
@[go_sem] theorem c21_32_wp : type_of% (wp_of c21_32.eq_1) := wp_of c21_32.eq_1
@[go_sem] theorem c21_33_wp : type_of% (wp_of c21_33.eq_1) := wp_of c21_33.eq_1
@[go_sem] theorem c21_34_wp : type_of% (wp_of c21_34.eq_1) := wp_of c21_34.eq_1
@[go_sem] theorem c21_35_wp : type_of% (wp_of c21_35.eq_1) := wp_of c21_35.eq_1
def c21 : AFn := ⟨52, [], c21_35⟩
set_option maxRecDepth 100000 in
theorem c21_ok : compF Tryd.prog Tryd.f21 = some c21 := by kernel_rfl
theorem a21 {args : List AV} {σ : ASt} {R : AV → ASt → Prop} (hl : args.length ≤ 52) (h : c21_35.wp Tryd.prog (RetQ [] R) (init args) σ) : ACalls Tryd.prog 21 args σ R := acalls_of Tryd.func21 c21_ok hl h

/-! 22: slices.EqualFunc[[]tabular/expr.Node,[]tabular/expr.Node,tabular/expr.Node,tabular/expr.Node] -/
def c22_0 : ACode := .ops [
    ⟨(some 6), none, .q (.mv (.v (.bool false))), []⟩]
def c22_1 : ACode := .ops [
    ⟨(some 10), none, .q (.mv (.t 0)), []⟩,
    ⟨(some 11), none, .q (.len (.t 10)), []⟩,
    ⟨(some 12), none, .q (.mv (.t 1)), []⟩,
    ⟨(some 13), none, .q (.len (.t 12)), []⟩,
    ⟨(some 14), none, .q (.bin .neq (.t 11) (.t 13)), []⟩]
def c22_2 : ACode := .ops [
    ⟨(some 6), none, .q (.mv (.v (.bool false))), []⟩]
def c22_3 : ACode := .seq c22_2 .ret
def c22_4 : ACode := .cond (.t 14) c22_3 .skip
def c22_5 : ACode := .seq c22_1 c22_4
def c22_6 : ACode := .ops [
    ⟨(some 15), none, .q (.mv (.t 0)), []⟩,
    ⟨(some 16), none, .q (.len (.t 15)), []⟩,
    ⟨(some 17), none, .q (.mv (.v (.int .i64 0))), []⟩]
def c22_7 : ACode := .ops [
    ⟨(some 18), none, .q (.bin .lss (.t 17) (.t 16)), []⟩]
def c22_8 : ACode := .cond (.t 18) .skip (.exit 0)
def c22_9 : ACode := .ops [
    ⟨(some 19), none, .q (.mv (.t 17)), []⟩,
    ⟨(some 20), none, .q (.ia 12 (.t 15) (.t 17)), []⟩,
    ⟨(some 21), none, .q (.ld (some 12) (.t 20)), []⟩,
    ⟨(some 8), none, .e (.alloc [(.int .i64 0), (.int .i64 0), (.str []), (.int .i64 0), (.int .i64 0), (.bool false), (.bool false), (.int .i64 0), (.int .i64 0), (.bool false), (.bool false), (.sl .full [])]), []⟩,
    ⟨(some 7), none, .q (.mv (.t 19)), []⟩,
    ⟨none, none, .e (.store 12 (.t 8) (.t 21)), []⟩]
def c22_10 : ACode := .ops [
    ⟨(some 22), none, .q (.mv (.t 1)), []⟩,
    ⟨(some 23), none, .q (.mv (.t 7)), []⟩,
    ⟨(some 24), none, .q (.ia 12 (.t 22) (.t 23)), []⟩,
    ⟨(some 25), none, .q (.ld (some 12) (.t 24)), []⟩,
    ⟨(some 9), none, .e (.alloc [(.int .i64 0), (.int .i64 0), (.str []), (.int .i64 0), (.int .i64 0), (.bool false), (.bool false), (.int .i64 0), (.int .i64 0), (.bool false), (.bool false), (.sl .full [])]), []⟩,
    ⟨none, none, .e (.store 12 (.t 9) (.t 25)), []⟩]
def c22_11 : ACode := .ops [
    ⟨(some 26), none, .q (.mv (.t 2)), []⟩,
    ⟨(some 27), none, .q (.ld (some 12) (.t 8)), []⟩,
    ⟨(some 28), none, .q (.ld (some 12) (.t 9)), []⟩,
    ⟨(some 29), none, .e (.callv (.t 26) [(.t 27), (.t 28)]), []⟩,
    ⟨(some 30), none, .q (.un .not (.t 29)), []⟩]
def c22_12 : ACode := .ops [
    ⟨(some 6), none, .q (.mv (.v (.bool false))), []⟩]
def c22_13 : ACode := .seq c22_12 .ret
def c22_14 : ACode := .cond (.t 30) c22_13 .skip
def c22_15 : ACode := .seq c22_11 c22_14
def c22_16 : ACode := .seq c22_10 c22_15
def c22_17 : ACode := .seq c22_9 c22_16
def c22_18 : ACode := .block 1 c22_17
def c22_19 : ACode := .ops [
    ⟨(some 31), none, .q (.bin .add (.t 17) (.v (.int .i64 1))), []⟩,
    ⟨(some 17), none, .q (.mv (.t 31)), []⟩]
def c22_20 : ACode := .seq c22_18 c22_19
def c22_21 : ACode := .seq c22_8 c22_20
def c22_22 : ACode := .seq c22_7 c22_21
def c22_23 : ACode := .loop c22_22
def c22_24 : ACode := .block 0 c22_23
def c22_25 : ACode := .seq c22_6 c22_24
def c22_26 : ACode := .ops [
    ⟨(some 6), none, .q (.mv (.v (.bool true))), []⟩]
def c22_27 : ACode := .seq c22_26 .ret
def c22_28 : ACode := .seq c22_25 c22_27
def c22_29 : ACode := .seq c22_5 c22_28
def c22_30 : ACode := .seq c22_0 c22_29
@[go_sem] theorem c22_0_wp : type_of% (wp_of c22_0.eq_1) := wp_of c22_0.eq_1
@[go_sem] theorem c22_1_wp : type_of% (wp_of c22_1.eq_1) := wp_of c22_1.eq_1
@[go_sem] theorem c22_2_wp : type_of% (wp_of c22_2.eq_1) := wp_of c22_2.eq_1
@[go_sem] theorem c22_3_wp : type_of% (wp_of c22_3.eq_1) := wp_of c22_3.eq_1
@[go_sem] theorem c22_4_wp : type_of% (wp_of c22_4.eq_1) := wp_of c22_4.eq_1
@[go_sem] theorem c22_5_wp : type_of% (wp_of c22_5.eq_1) := wp_of c22_5.eq_1
@[go_sem] theorem c22_6_wp : type_of% (wp_of c22_6.eq_1) := wp_of c22_6.eq_1
@[go_sem] theorem c22_7_wp : type_of% (wp_of c22_7.eq_1) := wp_of c22_7.eq_1
@[go_sem] theorem c22_8_wp : type_of% (wp_of c22_8.eq_1) := wp_of c22_8.eq_1
@[go_sem] theorem c22_9_wp : type_of% (wp_of c22_9.eq_1) := wp_of c22_9.eq_1
@[go_sem] theorem c22_10_wp : type_of% (wp_of c22_10.eq_1) := wp_of c22_10.eq_1
@[go_sem] theorem c22_11_wp : type_of% (wp_of c22_11.eq_1) := wp_of c22_11.eq_1
@[go_sem] theorem c22_12_wp : type_of% (wp_of c22_12.eq_1) := wp_of c22_12.eq_1
@[go_sem] theorem c22_13_wp : type_of% (wp_of c22_13.eq_1) := wp_of c22_13.eq_1
@[go_sem] theorem c22_14_wp : type_of% (wp_of c22_14.eq_1) := wp_of c22_14.eq_1
@[go_sem] theorem c22_15_wp : type_of% (wp_of c22_15.eq_1) := wp_of c22_15.eq_1
@[go_sem] theorem c22_16_wp : type_of% (wp_of c22_16.eq_1) := wp_of c22_16.eq_1
@[go_sem] theorem c22_17_wp : type_of% (wp_of c22_17.eq_1) := wp_of c22_17.eq_1
@[go_sem] theorem c22_18_wp : type_of% (wp_of c22_18.eq_1) := wp_of c22_18.eq_1
@[go_sem] theorem c22_19_wp : type_of% (wp_of c22_19.eq_1) := wp_of c22_19.eq_1
@[go_sem] theorem c22_20_wp : type_of% (wp_of c22_20.eq_1) := wp_of c22_20.eq_1
@[go_sem] theorem c22_21_wp : type_of% (wp_of c22_21.eq_1) := wp_of c22_21.eq_1
@[go_sem] theorem c22_22_wp : type_of% (wp_of c22_22.eq_1) := wp_of c22_22.eq_1
@[go_sem] theorem c22_23_wp : type_of% (wp_of c22_23.eq_1) := wp_of c22_23.eq_1
@[go_sem] theorem c22_24_wp : type_of% (wp_of c22_24.eq_1) := wp_of c22_24.eq_1
@[go_sem] theorem c22_25_wp : type_of% (wp_of c22_25.eq_1) := wp_of c22_25.eq_1
@[go_sem] theorem c22_26_wp : type_of% (wp_of c22_26.eq_1) := wp_of c22_26.eq_1
@[go_sem] theorem c22_27_wp : type_of% (wp_of c22_27.eq_1) := wp_of c22_27.eq_1
@[go_sem] theorem c22_28_wp : type_of% (wp_of c22_28.eq_1) := wp_of c22_28.eq_1
@[go_sem] theorem c22_29_wp : type_of% (wp_of c22_29.eq_1) := wp_of c22_29.eq_1
@[go_sem] theorem c22_30_wp : type_of% (wp_of c22_30.eq_1) := wp_of c22_30.eq_1
def c22 : AFn := ⟨32, [.t 6], c22_30⟩
set_option maxRecDepth 100000 in
theorem c22_ok : compF Tryd.prog Tryd.f22 = some c22 := by kernel_rfl
theorem a22 {args : List AV} {σ : ASt} {R : AV → ASt → Prop} (hl : args.length ≤ 32) (h : c22_30.wp Tryd.prog (RetQ [.t 6] R) (init args) σ) : ACalls Tryd.prog 22 args σ R := acalls_of Tryd.func22 c22_ok hl h

/-! 37: slices.Contains[[]tabular/addr.Rect,tabular/addr.Rect] -/
def c37_0 : ACode := .ops [
    ⟨(some 3), none, .e (.box (.t 1)), []⟩,
    ⟨(some 4), none, .q (.mv (.v (.bool false))), []⟩]
def c37_1 : ACode := .ops [
    ⟨(some 5), none, .q (.mv (.t 0)), []⟩,
    ⟨(some 6), none, .q (.ld (some 4) (.t 3)), []⟩,
    ⟨(some 7), none, .e (.call 50 [(.t 5), (.t 6)]), []⟩,
    ⟨(some 8), none, .q (.bin .geq (.t 7) (.v (.int .i64 0))), []⟩,
    ⟨(some 4), none, .q (.mv (.t 8)), []⟩]
def c37_2 : ACode := .seq c37_1 .ret
def c37_3 : ACode := .seq c37_0 c37_2
@[go_sem] theorem c37_0_wp : type_of% (wp_of c37_0.eq_1) := wp_of c37_0.eq_1
@[go_sem] theorem c37_1_wp : type_of% (wp_of c37_1.eq_1) := wp_of c37_1.eq_1
@[go_sem] theorem c37_2_wp : type_of% (wp_of c37_2.eq_1) := wp_of c37_2.eq_1
@[go_sem] theorem c37_3_wp : type_of% (wp_of c37_3.eq_1) := wp_of c37_3.eq_1
def c37 : AFn := ⟨9, [.t 4], c37_3⟩
set_option maxRecDepth 100000 in
theorem c37_ok : compF Tryd.prog Tryd.f37 = some c37 := by kernel_rfl
theorem a37 {args : List AV} {σ : ASt} {R : AV → ASt → Prop} (hl : args.length ≤ 9) (h : c37_3.wp Tryd.prog (RetQ [.t 4] R) (init args) σ) : ACalls Tryd.prog 37 args σ R := acalls_of Tryd.func37 c37_ok hl h

/-! 50: slices.Index[[]tabular/addr.Rect,tabular/addr.Rect] -/
def c50_0 : ACode := .ops [
    ⟨(some 3), none, .e (.box (.t 1)), []⟩,
    ⟨(some 4), none, .q (.mv (.v (.int .i64 0))), []⟩]
def c50_1 : ACode := .ops [
    ⟨(some 6), none, .q (.mv (.t 0)), []⟩,
    ⟨(some 7), none, .q (.len (.t 6)), []⟩,
    ⟨(some 8), none, .q (.mv (.v (.int .i64 0))), []⟩]
def c50_2 : ACode := .ops [
    ⟨(some 9), none, .q (.bin .lss (.t 8) (.t 7)), []⟩]
def c50_3 : ACode := .cond (.t 9) .skip (.exit 0)
def c50_4 : ACode := .ops [
    ⟨(some 10), none, .q (.mv (.t 8)), []⟩,
    ⟨(some 5), none, .q (.mv (.t 10)), []⟩]
def c50_5 : ACode := .ops [
    ⟨(some 11), none, .q (.ld (some 4) (.t 3)), []⟩,
    ⟨(some 12), none, .q (.mv (.t 0)), []⟩,
    ⟨(some 13), none, .q (.mv (.t 5)), []⟩,
    ⟨(some 14), none, .q (.ia 4 (.t 12) (.t 13)), []⟩,
    ⟨(some 15), none, .q (.ld (some 4) (.t 14)), []⟩,
    ⟨(some 16), none, .q (.eqs false [(0, 0), (1, 0), (2, 0), (3, 0)] (.t 11) (.t 15)), []⟩]
def c50_6 : ACode := .ops [
    ⟨(some 17), none, .q (.mv (.t 5)), []⟩,
    ⟨(some 4), none, .q (.mv (.t 17)), []⟩]
def c50_7 : ACode := .seq c50_6 .ret
def c50_8 : ACode := .cond (.t 16) c50_7 .skip
def c50_9 : ACode := .seq c50_5 c50_8
def c50_10 : ACode := .seq c50_4 c50_9
def c50_11 : ACode := .block 1 c50_10
def c50_12 : ACode := .ops [
    ⟨(some 18), none, .q (.bin .add (.t 8) (.v (.int .i64 1))), []⟩,
    ⟨(some 8), none, .q (.mv (.t 18)), []⟩]
def c50_13 : ACode := .seq c50_11 c50_12
def c50_14 : ACode := .seq c50_3 c50_13
def c50_15 : ACode := .seq c50_2 c50_14
def c50_16 : ACode := .loop c50_15
def c50_17 : ACode := .block 0 c50_16
def c50_18 : ACode := .seq c50_1 c50_17
def c50_19 : ACode := .ops [
    ⟨(some 4), none, .q (.mv (.v (.int .i64 (-1)))), []⟩]
def c50_20 : ACode := .seq c50_19 .ret
def c50_21 : ACode := .seq c50_18 c50_20
def c50_22 : ACode := .seq c50_0 c50_21
@[go_sem] theorem c50_0_wp : type_of% (wp_of c50_0.eq_1) := wp_of c50_0.eq_1
@[go_sem] theorem c50_1_wp : type_of% (wp_of c50_1.eq_1) := wp_of c50_1.eq_1
@[go_sem] theorem c50_2_wp : type_of% (wp_of c50_2.eq_1) := wp_of c50_2.eq_1
@[go_sem] theorem c50_3_wp : type_of% (wp_of c50_3.eq_1) := wp_of c50_3.eq_1
@[go_sem] theorem c50_4_wp : type_of% (wp_of c50_4.eq_1) := wp_of c50_4.eq_1
@[go_sem] theorem c50_5_wp : type_of% (wp_of c50_5.eq_1) := wp_of c50_5.eq_1
@[go_sem] theorem c50_6_wp : type_of% (wp_of c50_6.eq_1) := wp_of c50_6.eq_1
@[go_sem] theorem c50_7_wp : type_of% (wp_of c50_7.eq_1) := wp_of c50_7.eq_1
@[go_sem] theorem c50_8_wp : type_of% (wp_of c50_8.eq_1) := wp_of c50_8.eq_1
@[go_sem] theorem c50_9_wp : type_of% (wp_of c50_9.eq_1) := wp_of c50_9.eq_1
@[go_sem] theorem c50_10_wp : type_of% (wp_of c50_10.eq_1) := wp_of c50_10.eq_1
@[go_sem] theorem c50_11_wp : type_of% (wp_of c50_11.eq_1) := wp_of c50_11.eq_1
@[go_sem] theorem c50_12_wp : type_of% (wp_of c50_12.eq_1) := wp_of c50_12.eq_1
@[go_sem] theorem c50_13_wp : type_of% (wp_of c50_13.eq_1) := wp_of c50_13.eq_1
@[go_sem] theorem c50_14_wp : type_of% (wp_of c50_14.eq_1) := wp_of c50_14.eq_1
@[go_sem] theorem c50_15_wp : type_of% (wp_of c50_15.eq_1) := wp_of c50_15.eq_1
@[go_sem] theorem c50_16_wp : type_of% (wp_of c50_16.eq_1) := wp_of c50_16.eq_1
@[go_sem] theorem c50_17_wp : type_of% (wp_of c50_17.eq_1) := wp_of c50_17.eq_1
@[go_sem] theorem c50_18_wp : type_of% (wp_of c50_18.eq_1) := wp_of c50_18.eq_1
@[go_sem] theorem c50_19_wp : type_of% (wp_of c50_19.eq_1) := wp_of c50_19.eq_1
@[go_sem] theorem c50_20_wp : type_of% (wp_of c50_20.eq_1) := wp_of c50_20.eq_1
@[go_sem] theorem c50_21_wp : type_of% (wp_of c50_21.eq_1) := wp_of c50_21.eq_1
@[go_sem] theorem c50_22_wp : type_of% (wp_of c50_22.eq_1) := wp_of c50_22.eq_1
def c50 : AFn := ⟨19, [.t 4], c50_22⟩
set_option maxRecDepth 100000 in
theorem c50_ok : compF Tryd.prog Tryd.f50 = some c50 := by kernel_rfl
theorem a50 {args : List AV} {σ : ASt} {R : AV → ASt → Prop} (hl : args.length ≤ 19) (h : c50_22.wp Tryd.prog (RetQ [.t 4] R) (init args) σ) : ACalls Tryd.prog 50 args σ R := acalls_of Tryd.func50 c50_ok hl h

end Go.A
