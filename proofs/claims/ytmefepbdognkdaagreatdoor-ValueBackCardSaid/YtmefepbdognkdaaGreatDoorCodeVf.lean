/- The functions, compiled: by program (wip/gencode.py). -/
import Derived.Test.YtmefepbdognkdaaGreatDoorBk
import Derived.Test.YtmefepbdognkdaaGreatDoorProg
import Derived.KernelRfl
namespace Go.A
open Go.Proofs

/-! 107: (*tabular/vint.Reader).Int -/
def c107_0 : ACode := .ops [
    ⟨(some 2), none, .q (.mv (.v (.int .i64 0))), []⟩]
def c107_1 : ACode := .ops [
    ⟨(some 4), none, .q (.mv (.t 0)), []⟩,
    ⟨(some 5), none, .e (.call 106 [(.t 4)]), []⟩,
    ⟨(some 3), none, .q (.mv (.t 5)), []⟩]
def c107_2 : ACode := .ops [
    ⟨(some 6), none, .q (.mv (.t 3)), []⟩,
    ⟨(some 7), none, .q (.bin .shr (.t 6) (.v (.int .u64 1))), []⟩,
    ⟨(some 8), none, .q (.conv .i64 (.t 7)), []⟩,
    ⟨(some 9), none, .q (.mv (.t 3)), []⟩,
    ⟨(some 10), none, .q (.bin .and (.t 9) (.v (.int .u64 1))), []⟩,
    ⟨(some 11), none, .q (.conv .i64 (.t 10)), []⟩,
    ⟨(some 12), none, .q (.un .neg (.t 11)), []⟩,
    ⟨(some 13), none, .q (.bin .xor (.t 8) (.t 12)), []⟩,
    ⟨(some 2), none, .q (.mv (.t 13)), []⟩]
def c107_3 : ACode := .seq c107_2 .ret
def c107_4 : ACode := .seq c107_1 c107_3
def c107_5 : ACode := .seq c107_0 c107_4
@[go_sem] theorem c107_0_wp : type_of% (wp_of c107_0.eq_1) := wp_of c107_0.eq_1
@[go_sem] theorem c107_1_wp : type_of% (wp_of c107_1.eq_1) := wp_of c107_1.eq_1
@[go_sem] theorem c107_2_wp : type_of% (wp_of c107_2.eq_1) := wp_of c107_2.eq_1
@[go_sem] theorem c107_3_wp : type_of% (wp_of c107_3.eq_1) := wp_of c107_3.eq_1
@[go_sem] theorem c107_4_wp : type_of% (wp_of c107_4.eq_1) := wp_of c107_4.eq_1
@[go_sem] theorem c107_5_wp : type_of% (wp_of c107_5.eq_1) := wp_of c107_5.eq_1
def c107 : AFn := ⟨14, [.t 2], c107_5⟩
set_option maxRecDepth 100000 in
theorem c107_ok : compF Tryz.prog Tryz.f107 = some c107 := by kernel_rfl
theorem a107 {args : List AV} {σ : ASt} {R : AV → ASt → Prop} (hl : args.length ≤ 14) (h : c107_5.wp Tryz.prog (RetQ [.t 2] R) (init args) σ) : ACalls Tryz.prog 107 args σ R := acalls_of Tryz.func107 c107_ok hl h

/-! 108: (*tabular/vint.Reader).Text -/
def c108_0 : ACode := .ops [
    ⟨(some 4), none, .q (.mv (.v (.str []))), []⟩]
def c108_1 : ACode := .ops [
    ⟨(some 6), none, .q (.mv (.t 0)), []⟩,
    ⟨(some 7), none, .e (.call 106 [(.t 6)]), []⟩,
    ⟨(some 5), none, .q (.mv (.t 7)), []⟩]
def c108_2 : ACode := .ops [
    ⟨(some 8), none, .q (.mv (.t 0)), []⟩,
    ⟨(some 9), none, .q (.nc (.t 8)), []⟩,
    ⟨(some 10), none, .q (.fa 2 (.t 9)), []⟩,
    ⟨(some 11), none, .q (.ld none (.t 10)), []⟩,
    ⟨(some 12), none, .q (.bin .eql (.t 11) (.v (.int .i64 0))), []⟩,
    ⟨(some 13), none, .q (.mv (.t 12)), []⟩,
    ⟨(some 14), (some (13, true)), .q (.mv (.t 5)), []⟩,
    ⟨(some 15), (some (13, true)), .q (.mv (.t 1)), []⟩,
    ⟨(some 16), (some (13, true)), .q (.mnx true (.t 15) (.v (.int .i64 0))), []⟩,
    ⟨(some 17), (some (13, true)), .q (.conv .u64 (.t 16)), []⟩,
    ⟨(some 18), (some (13, true)), .q (.bin .gtr (.t 14) (.t 17)), []⟩,
    ⟨(some 19), none, .q (.pick (.t 13) (.t 18) (.v (.bool false))), []⟩]
def c108_3 : ACode := .ops [
    ⟨(some 20), none, .q (.mv (.t 0)), []⟩,
    ⟨(some 21), none, .e (.call 112 [(.t 20), (.v (.int .i64 11))]), []⟩]
def c108_4 : ACode := .cond (.t 19) c108_3 .skip
def c108_5 : ACode := .seq c108_2 c108_4
def c108_6 : ACode := .ops [
    ⟨(some 22), none, .q (.mv (.t 0)), []⟩,
    ⟨(some 23), none, .q (.nc (.t 22)), []⟩,
    ⟨(some 24), none, .q (.fa 2 (.t 23)), []⟩,
    ⟨(some 25), none, .q (.ld none (.t 24)), []⟩,
    ⟨(some 26), none, .q (.bin .eql (.t 25) (.v (.int .i64 0))), []⟩,
    ⟨(some 27), none, .q (.mv (.t 26)), []⟩,
    ⟨(some 28), (some (27, true)), .q (.mv (.t 5)), []⟩,
    ⟨(some 29), (some (27, true)), .q (.mv (.t 0)), []⟩,
    ⟨(some 30), (some (27, true)), .q (.nc (.t 29)), []⟩,
    ⟨(some 31), (some (27, true)), .q (.fa 0 (.t 30)), []⟩,
    ⟨(some 32), (some (27, true)), .q (.ld none (.t 31)), []⟩,
    ⟨(some 33), (some (27, true)), .q (.lenS (.t 32)), []⟩,
    ⟨(some 34), (some (27, true)), .q (.mv (.t 0)), []⟩,
    ⟨(some 35), (some (27, true)), .q (.nc (.t 34)), []⟩,
    ⟨(some 36), (some (27, true)), .q (.fa 1 (.t 35)), []⟩,
    ⟨(some 37), (some (27, true)), .q (.ld none (.t 36)), []⟩,
    ⟨(some 38), (some (27, true)), .q (.bin .sub (.t 33) (.t 37)), []⟩,
    ⟨(some 39), (some (27, true)), .q (.conv .u64 (.t 38)), []⟩,
    ⟨(some 40), (some (27, true)), .q (.bin .gtr (.t 28) (.t 39)), []⟩,
    ⟨(some 41), none, .q (.pick (.t 27) (.t 40) (.v (.bool false))), []⟩]
def c108_7 : ACode := .ops [
    ⟨(some 42), none, .q (.mv (.t 0)), []⟩,
    ⟨(some 43), none, .e (.call 112 [(.t 42), (.v (.int .i64 2))]), []⟩]
def c108_8 : ACode := .cond (.t 41) c108_7 .skip
def c108_9 : ACode := .seq c108_6 c108_8
def c108_10 : ACode := .ops [
    ⟨(some 44), none, .q (.mv (.t 0)), []⟩,
    ⟨(some 45), none, .q (.nc (.t 44)), []⟩,
    ⟨(some 46), none, .q (.fa 2 (.t 45)), []⟩,
    ⟨(some 47), none, .q (.ld none (.t 46)), []⟩,
    ⟨(some 48), none, .q (.bin .neq (.t 47) (.v (.int .i64 0))), []⟩]
def c108_11 : ACode := .ops [
    ⟨(some 4), none, .q (.mv (.v (.str []))), []⟩]
def c108_12 : ACode := .seq c108_11 .ret
def c108_13 : ACode := .cond (.t 48) c108_12 .skip
def c108_14 : ACode := .seq c108_10 c108_13
def c108_15 : ACode := .ops [
    ⟨(some 49), none, .q (.mv (.t 0)), []⟩,
    ⟨(some 50), none, .q (.nc (.t 49)), []⟩,
    ⟨(some 51), none, .q (.fa 1 (.t 50)), []⟩,
    ⟨(some 52), none, .q (.ld none (.t 51)), []⟩,
    ⟨(some 53), none, .q (.mv (.t 5)), []⟩,
    ⟨(some 54), none, .q (.conv .i64 (.t 53)), []⟩,
    ⟨(some 55), none, .q (.bin .add (.t 52) (.t 54)), []⟩,
    ⟨(some 56), none, .q (.nc (.t 49)), []⟩,
    ⟨(some 57), none, .q (.fa 1 (.t 56)), []⟩,
    ⟨none, none, .e (.store 1 (.t 57) (.t 55)), []⟩]
def c108_16 : ACode := .ops [
    ⟨(some 58), none, .q (.mv (.t 0)), []⟩,
    ⟨(some 59), none, .q (.nc (.t 58)), []⟩,
    ⟨(some 60), none, .q (.fa 0 (.t 59)), []⟩,
    ⟨(some 61), none, .q (.ld none (.t 60)), []⟩,
    ⟨(some 62), none, .q (.mv (.t 0)), []⟩,
    ⟨(some 63), none, .q (.nc (.t 62)), []⟩,
    ⟨(some 64), none, .q (.fa 1 (.t 63)), []⟩,
    ⟨(some 65), none, .q (.ld none (.t 64)), []⟩,
    ⟨(some 66), none, .q (.mv (.t 5)), []⟩,
    ⟨(some 67), none, .q (.conv .i64 (.t 66)), []⟩,
    ⟨(some 68), none, .q (.bin .sub (.t 65) (.t 67)), []⟩,
    ⟨(some 69), none, .q (.mv (.t 0)), []⟩,
    ⟨(some 70), none, .q (.nc (.t 69)), []⟩,
    ⟨(some 71), none, .q (.fa 1 (.t 70)), []⟩,
    ⟨(some 72), none, .q (.ld none (.t 71)), []⟩,
    ⟨(some 73), none, .q (.sls (true, 0) (.t 61) (.t 68) (.t 72)), []⟩,
    ⟨(some 4), none, .q (.mv (.t 73)), []⟩]
def c108_17 : ACode := .seq c108_16 .ret
def c108_18 : ACode := .seq c108_15 c108_17
def c108_19 : ACode := .seq c108_14 c108_18
def c108_20 : ACode := .seq c108_9 c108_19
def c108_21 : ACode := .seq c108_5 c108_20
def c108_22 : ACode := .seq c108_1 c108_21
def c108_23 : ACode := .seq c108_0 c108_22
@[go_sem] theorem c108_0_wp : type_of% (wp_of c108_0.eq_1) := wp_of c108_0.eq_1
@[go_sem] theorem c108_1_wp : type_of% (wp_of c108_1.eq_1) := wp_of c108_1.eq_1
@[go_sem] theorem c108_2_wp : type_of% (wp_of c108_2.eq_1) := wp_of c108_2.eq_1
@[go_sem] theorem c108_3_wp : type_of% (wp_of c108_3.eq_1) := wp_of c108_3.eq_1
@[go_sem] theorem c108_4_wp : type_of% (wp_of c108_4.eq_1) := wp_of c108_4.eq_1
@[go_sem] theorem c108_5_wp : type_of% (wp_of c108_5.eq_1) := wp_of c108_5.eq_1
@[go_sem] theorem c108_6_wp : type_of% (wp_of c108_6.eq_1) := wp_of c108_6.eq_1
@[go_sem] theorem c108_7_wp : type_of% (wp_of c108_7.eq_1) := wp_of c108_7.eq_1
@[go_sem] theorem c108_8_wp : type_of% (wp_of c108_8.eq_1) := wp_of c108_8.eq_1
@[go_sem] theorem c108_9_wp : type_of% (wp_of c108_9.eq_1) := wp_of c108_9.eq_1
@[go_sem] theorem c108_10_wp : type_of% (wp_of c108_10.eq_1) := wp_of c108_10.eq_1
@[go_sem] theorem c108_11_wp : type_of% (wp_of c108_11.eq_1) := wp_of c108_11.eq_1
@[go_sem] theorem c108_12_wp : type_of% (wp_of c108_12.eq_1) := wp_of c108_12.eq_1
@[go_sem] theorem c108_13_wp : type_of% (wp_of c108_13.eq_1) := wp_of c108_13.eq_1
@[go_sem] theorem c108_14_wp : type_of% (wp_of c108_14.eq_1) := wp_of c108_14.eq_1
@[go_sem] theorem c108_15_wp : type_of% (wp_of c108_15.eq_1) := wp_of c108_15.eq_1
@[go_sem] theorem c108_16_wp : type_of% (wp_of c108_16.eq_1) := wp_of c108_16.eq_1
@[go_sem] theorem c108_17_wp : type_of% (wp_of c108_17.eq_1) := wp_of c108_17.eq_1
@[go_sem] theorem c108_18_wp : type_of% (wp_of c108_18.eq_1) := wp_of c108_18.eq_1
@[go_sem] theorem c108_19_wp : type_of% (wp_of c108_19.eq_1) := wp_of c108_19.eq_1
@[go_sem] theorem c108_20_wp : type_of% (wp_of c108_20.eq_1) := wp_of c108_20.eq_1
@[go_sem] theorem c108_21_wp : type_of% (wp_of c108_21.eq_1) := wp_of c108_21.eq_1
@[go_sem] theorem c108_22_wp : type_of% (wp_of c108_22.eq_1) := wp_of c108_22.eq_1
@[go_sem] theorem c108_23_wp : type_of% (wp_of c108_23.eq_1) := wp_of c108_23.eq_1
def c108 : AFn := ⟨74, [.t 4], c108_23⟩
set_option maxRecDepth 100000 in
theorem c108_ok : compF Tryz.prog Tryz.f108 = some c108 := by kernel_rfl
theorem a108 {args : List AV} {σ : ASt} {R : AV → ASt → Prop} (hl : args.length ≤ 74) (h : c108_23.wp Tryz.prog (RetQ [.t 4] R) (init args) σ) : ACalls Tryz.prog 108 args σ R := acalls_of Tryz.func108 c108_ok hl h

end Go.A
