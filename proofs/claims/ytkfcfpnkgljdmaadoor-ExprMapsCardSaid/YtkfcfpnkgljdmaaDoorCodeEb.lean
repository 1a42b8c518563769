/- The functions, compiled: by program (wip/gencode.py). -/
import Derived.Test.YtkfcfpnkgljdmaaDoorBk
import Derived.Test.YtkfcfpnkgljdmaaDoorProg
import Derived.KernelRfl
namespace Go.A
open Go.Proofs

/-! 23: (*strings.Builder).WriteString -/
def c23_0 : ACode := .ops [
    ⟨(some 4), none, .q (.mv (.v (.int .i64 0))), []⟩,
    ⟨(some 5), none, .q (.mv (.v .nili)), []⟩]
def c23_1 : ACode := .ops [
    ⟨(some 6), none, .q (.mv (.t 0)), []⟩,
    ⟨(some 7), none, .e (.call 38 [(.t 6)]), []⟩]
def c23_2 : ACode := .ops [
    ⟨(some 8), none, .q (.mv (.t 0)), []⟩,
    ⟨(some 9), none, .q (.mv (.t 0)), []⟩,
    ⟨(some 10), none, .q (.nc (.t 9)), []⟩,
    ⟨(some 11), none, .q (.fa 1 (.t 10)), []⟩,
    ⟨(some 12), none, .q (.ld none (.t 11)), []⟩,
    ⟨(some 13), none, .q (.mv (.t 1)), []⟩,
    ⟨(some 14), none, .e (.apps 5 (.t 12) (.t 13)), []⟩,
    ⟨(some 15), none, .q (.nc (.t 8)), []⟩,
    ⟨(some 16), none, .q (.fa 1 (.t 15)), []⟩,
    ⟨none, none, .e (.store 1 (.t 16) (.t 14)), []⟩]
def c23_3 : ACode := .ops [
    ⟨(some 17), none, .q (.mv (.t 1)), []⟩,
    ⟨(some 18), none, .q (.lenS (.t 17)), []⟩,
    ⟨(some 4), none, .q (.mv (.t 18)), []⟩,
    ⟨(some 5), none, .q (.mv (.v .nili)), []⟩]
def c23_4 : ACode := .seq c23_3 .ret
def c23_5 : ACode := .seq c23_2 c23_4
def c23_6 : ACode := .seq c23_1 c23_5
def c23_7 : ACode := .seq c23_0 c23_6
@[go_sem] theorem c23_0_wp : type_of% (wp_of c23_0.eq_1) := wp_of c23_0.eq_1
@[go_sem] theorem c23_1_wp : type_of% (wp_of c23_1.eq_1) := wp_of c23_1.eq_1
@[go_sem] theorem c23_2_wp : type_of% (wp_of c23_2.eq_1) := wp_of c23_2.eq_1
@[go_sem] theorem c23_3_wp : type_of% (wp_of c23_3.eq_1) := wp_of c23_3.eq_1
@[go_sem] theorem c23_4_wp : type_of% (wp_of c23_4.eq_1) := wp_of c23_4.eq_1
@[go_sem] theorem c23_5_wp : type_of% (wp_of c23_5.eq_1) := wp_of c23_5.eq_1
@[go_sem] theorem c23_6_wp : type_of% (wp_of c23_6.eq_1) := wp_of c23_6.eq_1
@[go_sem] theorem c23_7_wp : type_of% (wp_of c23_7.eq_1) := wp_of c23_7.eq_1
def c23 : AFn := ⟨19, [.t 4, .t 5], c23_7⟩
set_option maxRecDepth 100000 in
theorem c23_ok : compF Tryd.prog Tryd.f23 = some c23 := by kernel_rfl
theorem a23 {args : List AV} {σ : ASt} {R : AV → ASt → Prop} (hl : args.length ≤ 19) (h : c23_7.wp Tryd.prog (RetQ [.t 4, .t 5] R) (init args) σ) : ACalls Tryd.prog 23 args σ R := acalls_of Tryd.func23 c23_ok hl h

/-! 26: tabular/expr.truth -/
def c26_0 : ACode := .ops [
    ⟨(some 2), none, .q (.mv (.v (.str []))), []⟩]
def c26_1 : ACode := .ops [
    ⟨(some 3), none, .q (.mv (.t 0)), []⟩]
def c26_2 : ACode := .ops [
    ⟨(some 2), none, .q (.mv (.v (.str [84, 82, 85, 69]))), []⟩]
def c26_3 : ACode := .seq c26_2 .ret
def c26_4 : ACode := .cond (.t 3) c26_3 .skip
def c26_5 : ACode := .seq c26_1 c26_4
def c26_6 : ACode := .ops [
    ⟨(some 2), none, .q (.mv (.v (.str [70, 65, 76, 83, 69]))), []⟩]
def c26_7 : ACode := .seq c26_6 .ret
def c26_8 : ACode := .seq c26_5 c26_7
def c26_9 : ACode := .seq c26_0 c26_8
@[go_sem] theorem c26_0_wp : type_of% (wp_of c26_0.eq_1) := wp_of c26_0.eq_1
@[go_sem] theorem c26_1_wp : type_of% (wp_of c26_1.eq_1) := wp_of c26_1.eq_1
@[go_sem] theorem c26_2_wp : type_of% (wp_of c26_2.eq_1) := wp_of c26_2.eq_1
@[go_sem] theorem c26_3_wp : type_of% (wp_of c26_3.eq_1) := wp_of c26_3.eq_1
@[go_sem] theorem c26_4_wp : type_of% (wp_of c26_4.eq_1) := wp_of c26_4.eq_1
@[go_sem] theorem c26_5_wp : type_of% (wp_of c26_5.eq_1) := wp_of c26_5.eq_1
@[go_sem] theorem c26_6_wp : type_of% (wp_of c26_6.eq_1) := wp_of c26_6.eq_1
@[go_sem] theorem c26_7_wp : type_of% (wp_of c26_7.eq_1) := wp_of c26_7.eq_1
@[go_sem] theorem c26_8_wp : type_of% (wp_of c26_8.eq_1) := wp_of c26_8.eq_1
@[go_sem] theorem c26_9_wp : type_of% (wp_of c26_9.eq_1) := wp_of c26_9.eq_1
def c26 : AFn := ⟨4, [.t 2], c26_9⟩
set_option maxRecDepth 100000 in
theorem c26_ok : compF Tryd.prog Tryd.f26 = some c26 := by kernel_rfl
theorem a26 {args : List AV} {σ : ASt} {R : AV → ASt → Prop} (hl : args.length ≤ 4) (h : c26_9.wp Tryd.prog (RetQ [.t 2] R) (init args) σ) : ACalls Tryd.prog 26 args σ R := acalls_of Tryd.func26 c26_ok hl h

/-! 32: tabular/expr.level -/
def c32_0 : ACode := .ops [
    ⟨(some 2), none, .q (.mv (.v (.int .i64 0))), []⟩]
def c32_1 : ACode := .ops [
    ⟨(some 4), none, .q (.mv (.t 0)), []⟩,
    ⟨(some 5), none, .q (.bin .eql (.t 4) (.v (.int .i64 7))), []⟩,
    ⟨(some 6), none, .q (.mv (.t 5)), []⟩,
    ⟨(some 7), (some (6, false)), .q (.mv (.t 0)), []⟩,
    ⟨(some 8), (some (6, false)), .q (.bin .eql (.t 7) (.v (.int .i64 8))), []⟩,
    ⟨(some 9), none, .q (.pick (.t 6) (.v (.bool true)) (.t 8)), []⟩,
    ⟨(some 3), none, .q (.mv (.t 9)), []⟩]
def c32_2 : ACode := .ops [
    ⟨(some 2), none, .q (.mv (.v (.int .i64 6))), []⟩]
def c32_3 : ACode := .seq c32_2 .ret
def c32_4 : ACode := .ops [
    ⟨(some 11), none, .q (.mv (.t 0)), []⟩,
    ⟨(some 12), none, .q (.bin .eql (.t 11) (.v (.int .i64 9))), []⟩,
    ⟨(some 10), none, .q (.mv (.t 12)), []⟩]
def c32_5 : ACode := .ops [
    ⟨(some 2), none, .q (.mv (.v (.int .i64 7))), []⟩]
def c32_6 : ACode := .seq c32_5 .ret
def c32_7 : ACode := .ops [
    ⟨(some 14), none, .q (.mv (.t 0)), []⟩,
    ⟨(some 15), none, .q (.bin .lss (.t 14) (.v (.int .i64 10))), []⟩,
    ⟨(some 16), none, .q (.mv (.t 15)), []⟩,
    ⟨(some 17), (some (16, false)), .q (.mv (.t 0)), []⟩,
    ⟨(some 18), (some (16, false)), .q (.bin .geq (.t 17) (.v (.int .i64 22))), []⟩,
    ⟨(some 19), none, .q (.pick (.t 16) (.v (.bool true)) (.t 18)), []⟩,
    ⟨(some 13), none, .q (.mv (.t 19)), []⟩]
def c32_8 : ACode := .ops [
    ⟨(some 2), none, .q (.mv (.v (.int .i64 8))), []⟩]
def c32_9 : ACode := .seq c32_8 .ret
def c32_10 : ACode := .cond (.t 13) c32_9 .skip
def c32_11 : ACode := .seq c32_7 c32_10
def c32_12 : ACode := .cond (.t 10) c32_6 c32_11
def c32_13 : ACode := .seq c32_4 c32_12
def c32_14 : ACode := .cond (.t 3) c32_3 c32_13
def c32_15 : ACode := .seq c32_1 c32_14
def c32_16 : ACode := .block 0 c32_15
def c32_17 : ACode := .ops [
    ⟨(some 20), none, .q (.bsl 1 [(.v (.int .i64 3)), (.v (.int .i64 3)), (.v (.int .i64 4)), (.v (.int .i64 4)), (.v (.int .i64 5)), (.v (.int .i64 2)), (.v (.int .i64 1)), (.v (.int .i64 1)), (.v (.int .i64 1)), (.v (.int .i64 1)), (.v (.int .i64 1)), (.v (.int .i64 1))]), []⟩,
    ⟨(some 21), none, .q (.mv (.t 0)), []⟩,
    ⟨(some 22), none, .q (.bin .sub (.t 21) (.v (.int .i64 10))), []⟩,
    ⟨(some 23), none, .q (.ia 1 (.t 20) (.t 22)), []⟩,
    ⟨(some 24), none, .q (.ld none (.t 23)), []⟩,
    ⟨(some 2), none, .q (.mv (.t 24)), []⟩]
def c32_18 : ACode := .seq c32_17 .ret
def c32_19 : ACode := .seq c32_16 c32_18
def c32_20 : ACode := .seq c32_0 c32_19
@[go_sem] theorem c32_0_wp : type_of% (wp_of c32_0.eq_1) := wp_of c32_0.eq_1
@[go_sem] theorem c32_1_wp : type_of% (wp_of c32_1.eq_1) := wp_of c32_1.eq_1
@[go_sem] theorem c32_2_wp : type_of% (wp_of c32_2.eq_1) := wp_of c32_2.eq_1
@[go_sem] theorem c32_3_wp : type_of% (wp_of c32_3.eq_1) := wp_of c32_3.eq_1
@[go_sem] theorem c32_4_wp : type_of% (wp_of c32_4.eq_1) := wp_of c32_4.eq_1
@[go_sem] theorem c32_5_wp : type_of% (wp_of c32_5.eq_1) := wp_of c32_5.eq_1
@[go_sem] theorem c32_6_wp : type_of% (wp_of c32_6.eq_1) := wp_of c32_6.eq_1
@[go_sem] theorem c32_7_wp : type_of% (wp_of c32_7.eq_1) := wp_of c32_7.eq_1
@[go_sem] theorem c32_8_wp : type_of% (wp_of c32_8.eq_1) := wp_of c32_8.eq_1
@[go_sem] theorem c32_9_wp : type_of% (wp_of c32_9.eq_1) := wp_of c32_9.eq_1
@[go_sem] theorem c32_10_wp : type_of% (wp_of c32_10.eq_1) := wp_of c32_10.eq_1
@[go_sem] theorem c32_11_wp : type_of% (wp_of c32_11.eq_1) := wp_of c32_11.eq_1
@[go_sem] theorem c32_12_wp : type_of% (wp_of c32_12.eq_1) := wp_of c32_12.eq_1
@[go_sem] theorem c32_13_wp : type_of% (wp_of c32_13.eq_1) := wp_of c32_13.eq_1
@[go_sem] theorem c32_14_wp : type_of% (wp_of c32_14.eq_1) := wp_of c32_14.eq_1
@[go_sem] theorem c32_15_wp : type_of% (wp_of c32_15.eq_1) := wp_of c32_15.eq_1
@[go_sem] theorem c32_16_wp : type_of% (wp_of c32_16.eq_1) := wp_of c32_16.eq_1
@[go_sem] theorem c32_17_wp : type_of% (wp_of c32_17.eq_1) := wp_of c32_17.eq_1
@[go_sem] theorem c32_18_wp : type_of% (wp_of c32_18.eq_1) := wp_of c32_18.eq_1
@[go_sem] theorem c32_19_wp : type_of% (wp_of c32_19.eq_1) := wp_of c32_19.eq_1
@[go_sem] theorem c32_20_wp : type_of% (wp_of c32_20.eq_1) := wp_of c32_20.eq_1
def c32 : AFn := ⟨25, [.t 2], c32_20⟩
set_option maxRecDepth 100000 in
theorem c32_ok : compF Tryd.prog Tryd.f32 = some c32 := by kernel_rfl
theorem a32 {args : List AV} {σ : ASt} {R : AV → ASt → Prop} (hl : args.length ≤ 25) (h : c32_20.wp Tryd.prog (RetQ [.t 2] R) (init args) σ) : ACalls Tryd.prog 32 args σ R := acalls_of Tryd.func32 c32_ok hl h

/-! 33: tabular/expr.Signs -/
def c33_0 : ACode := .ops [
    ⟨(some 0), none, .q (.mv (.v (.sl .full []))), []⟩]
def c33_1 : ACode := .ops [
    ⟨(some 1), none, .q (.bsl 1 [(.v (.str [43])), (.v (.str [45])), (.v (.str [42])), (.v (.str [47])), (.v (.str [94])), (.v (.str [38])), (.v (.str [61])), (.v (.str [60, 62])), (.v (.str [60])), (.v (.str [60, 61])), (.v (.str [62])), (.v (.str [62, 61]))]), []⟩,
    ⟨(some 0), none, .q (.mv (.t 1)), []⟩]
def c33_2 : ACode := .seq c33_1 .ret
def c33_3 : ACode := .seq c33_0 c33_2
@[go_sem] theorem c33_0_wp : type_of% (wp_of c33_0.eq_1) := wp_of c33_0.eq_1
@[go_sem] theorem c33_1_wp : type_of% (wp_of c33_1.eq_1) := wp_of c33_1.eq_1
@[go_sem] theorem c33_2_wp : type_of% (wp_of c33_2.eq_1) := wp_of c33_2.eq_1
@[go_sem] theorem c33_3_wp : type_of% (wp_of c33_3.eq_1) := wp_of c33_3.eq_1
def c33 : AFn := ⟨2, [.t 0], c33_3⟩
set_option maxRecDepth 100000 in
theorem c33_ok : compF Tryd.prog Tryd.f33 = some c33 := by kernel_rfl
theorem a33 {args : List AV} {σ : ASt} {R : AV → ASt → Prop} (hl : args.length ≤ 2) (h : c33_3.wp Tryd.prog (RetQ [.t 0] R) (init args) σ) : ACalls Tryd.prog 33 args σ R := acalls_of Tryd.func33 c33_ok hl h

end Go.A
