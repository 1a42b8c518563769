/- The functions, compiled: by program (wip/gencode.py). -/
import Derived.Test.YtmefepbdognkdaaGreatDoorBk
import Derived.Test.YtmefepbdognkdaaGreatDoorProg
import Derived.KernelRfl
namespace Go.A
open Go.Proofs

/-! 27: tabular/value.AsNumber -/
def c27_0 : ACode := .ops [
    ⟨(some 2), none, .q (.mv (.v (.int .i64 0))), []⟩,
    ⟨(some 3), none, .q (.mv (.v (.int .i64 0))), []⟩]
def c27_1 : ACode := .ops [
    ⟨(some 10), none, .q (.mv (.t 0)), []⟩]
def c27_2 : ACode := .ops [
    ⟨(some 11), none, .q (.ta 80 (.int .i64 0) true (.t 10)), []⟩,
    ⟨(some 12), none, .q (.ext 1 (.t 11)), []⟩,
    ⟨(some 13), none, .q (.ext 0 (.t 11)), []⟩]
def c27_3 : ACode := .ops [
    ⟨(some 4), none, .q (.mv (.t 13)), []⟩]
def c27_4 : ACode := .ops [
    ⟨(some 14), none, .q (.mv (.t 4)), []⟩,
    ⟨(some 2), none, .q (.mv (.t 14)), []⟩,
    ⟨(some 3), none, .q (.mv (.v (.int .i64 0))), []⟩]
def c27_5 : ACode := .seq c27_4 .ret
def c27_6 : ACode := .seq c27_3 c27_5
def c27_7 : ACode := .ops [
    ⟨(some 15), none, .q (.ta 127 (.bool false) true (.t 10)), []⟩,
    ⟨(some 16), none, .q (.ext 1 (.t 15)), []⟩,
    ⟨(some 17), none, .q (.ext 0 (.t 15)), []⟩]
def c27_8 : ACode := .ops [
    ⟨(some 5), none, .q (.mv (.t 17)), []⟩]
def c27_9 : ACode := .ops [
    ⟨(some 18), none, .q (.mv (.t 5)), []⟩]
def c27_10 : ACode := .ops [
    ⟨(some 2), none, .q (.mv (.v (.int .i64 10000))), []⟩,
    ⟨(some 3), none, .q (.mv (.v (.int .i64 0))), []⟩]
def c27_11 : ACode := .seq c27_10 .ret
def c27_12 : ACode := .cond (.t 18) c27_11 .skip
def c27_13 : ACode := .seq c27_9 c27_12
def c27_14 : ACode := .ops [
    ⟨(some 2), none, .q (.mv (.v (.int .i64 0))), []⟩,
    ⟨(some 3), none, .q (.mv (.v (.int .i64 0))), []⟩]
def c27_15 : ACode := .seq c27_14 .ret
def c27_16 : ACode := .seq c27_13 c27_15
def c27_17 : ACode := .seq c27_8 c27_16
def c27_18 : ACode := .ops [
    ⟨(some 19), none, .q (.ta 124 (.str []) true (.t 10)), []⟩,
    ⟨(some 20), none, .q (.ext 1 (.t 19)), []⟩,
    ⟨(some 21), none, .q (.ext 0 (.t 19)), []⟩]
def c27_19 : ACode := .ops [
    ⟨(some 6), none, .q (.mv (.t 21)), []⟩]
def c27_20 : ACode := .ops [
    ⟨(some 23), none, .q (.mv (.t 6)), []⟩,
    ⟨(some 24), none, .e (.call 101 [(.t 23)]), []⟩,
    ⟨(some 25), none, .e (.call 100 [(.t 24)]), []⟩,
    ⟨(some 22), none, .q (.mv (.t 25)), []⟩,
    ⟨(some 26), none, .q (.ext 0 (.t 22)), []⟩,
    ⟨(some 27), none, .q (.ext 1 (.t 22)), []⟩,
    ⟨(some 7), none, .q (.mv (.t 26)), []⟩,
    ⟨(some 8), none, .q (.mv (.t 27)), []⟩]
def c27_21 : ACode := .ops [
    ⟨(some 28), none, .q (.mv (.t 8)), []⟩]
def c27_22 : ACode := .ops [
    ⟨(some 29), none, .q (.mv (.t 7)), []⟩,
    ⟨(some 2), none, .q (.mv (.t 29)), []⟩,
    ⟨(some 3), none, .q (.mv (.v (.int .i64 0))), []⟩]
def c27_23 : ACode := .seq c27_22 .ret
def c27_24 : ACode := .cond (.t 28) c27_23 .skip
def c27_25 : ACode := .seq c27_21 c27_24
def c27_26 : ACode := .seq c27_20 c27_25
def c27_27 : ACode := .ops [
    ⟨(some 2), none, .q (.mv (.v (.int .i64 0))), []⟩,
    ⟨(some 3), none, .q (.mv (.v (.int .i64 3))), []⟩]
def c27_28 : ACode := .seq c27_27 .ret
def c27_29 : ACode := .seq c27_26 c27_28
def c27_30 : ACode := .seq c27_19 c27_29
def c27_31 : ACode := .ops [
    ⟨(some 30), none, .q (.ta 51 (.int .i64 0) true (.t 10)), []⟩,
    ⟨(some 31), none, .q (.ext 1 (.t 30)), []⟩,
    ⟨(some 32), none, .q (.ext 0 (.t 30)), []⟩]
def c27_32 : ACode := .ops [
    ⟨(some 9), none, .q (.mv (.t 32)), []⟩]
def c27_33 : ACode := .ops [
    ⟨(some 33), none, .q (.mv (.t 9)), []⟩,
    ⟨(some 2), none, .q (.mv (.v (.int .i64 0))), []⟩,
    ⟨(some 3), none, .q (.mv (.t 33)), []⟩]
def c27_34 : ACode := .seq c27_33 .ret
def c27_35 : ACode := .seq c27_32 c27_34
def c27_36 : ACode := .cond (.t 31) c27_35 .skip
def c27_37 : ACode := .seq c27_31 c27_36
def c27_38 : ACode := .cond (.t 20) c27_30 c27_37
def c27_39 : ACode := .seq c27_18 c27_38
def c27_40 : ACode := .cond (.t 16) c27_17 c27_39
def c27_41 : ACode := .seq c27_7 c27_40
def c27_42 : ACode := .cond (.t 12) c27_6 c27_41
def c27_43 : ACode := .seq c27_2 c27_42
def c27_44 : ACode := .block 0 c27_43
def c27_45 : ACode := .seq c27_1 c27_44
def c27_46 : ACode := .ops [
    ⟨(some 2), none, .q (.mv (.v (.int .i64 0))), []⟩,
    ⟨(some 3), none, .q (.mv (.v (.int .i64 0))), []⟩]
def c27_47 : ACode := .seq c27_46 .ret
def c27_48 : ACode := .seq c27_45 c27_47
def c27_49 : ACode := .seq c27_0 c27_48
@[go_sem] theorem c27_0_wp : type_of% (wp_of c27_0.eq_1) := wp_of c27_0.eq_1
@[go_sem] theorem c27_1_wp : type_of% (wp_of c27_1.eq_1) := wp_of c27_1.eq_1
@[go_sem] theorem c27_2_wp : type_of% (wp_of c27_2.eq_1) := wp_of c27_2.eq_1
@[go_sem] theorem c27_3_wp : type_of% (wp_of c27_3.eq_1) := wp_of c27_3.eq_1
@[go_sem] theorem c27_4_wp : type_of% (wp_of c27_4.eq_1) := wp_of c27_4.eq_1
@[go_sem] theorem c27_5_wp : type_of% (wp_of c27_5.eq_1) := wp_of c27_5.eq_1
@[go_sem] theorem c27_6_wp : type_of% (wp_of c27_6.eq_1) := wp_of c27_6.eq_1
@[go_sem] theorem c27_7_wp : type_of% (wp_of c27_7.eq_1) := wp_of c27_7.eq_1
@[go_sem] theorem c27_8_wp : type_of% (wp_of c27_8.eq_1) := wp_of c27_8.eq_1
@[go_sem] theorem c27_9_wp : type_of% (wp_of c27_9.eq_1) := wp_of c27_9.eq_1
@[go_sem] theorem c27_10_wp : type_of% (wp_of c27_10.eq_1) := wp_of c27_10.eq_1
@[go_sem] theorem c27_11_wp : type_of% (wp_of c27_11.eq_1) := wp_of c27_11.eq_1
@[go_sem] theorem c27_12_wp : type_of% (wp_of c27_12.eq_1) := wp_of c27_12.eq_1
@[go_sem] theorem c27_13_wp : type_of% (wp_of c27_13.eq_1) := wp_of c27_13.eq_1
@[go_sem] theorem c27_14_wp : type_of% (wp_of c27_14.eq_1) := wp_of c27_14.eq_1
@[go_sem] theorem c27_15_wp : type_of% (wp_of c27_15.eq_1) := wp_of c27_15.eq_1
@[go_sem] theorem c27_16_wp : type_of% (wp_of c27_16.eq_1) := wp_of c27_16.eq_1
@[go_sem] theorem c27_17_wp : type_of% (wp_of c27_17.eq_1) := wp_of c27_17.eq_1
@[go_sem] theorem c27_18_wp : type_of% (wp_of c27_18.eq_1) := wp_of c27_18.eq_1
@[go_sem] theorem c27_19_wp : type_of% (wp_of c27_19.eq_1) := wp_of c27_19.eq_1
@[go_sem] theorem c27_20_wp : type_of% (wp_of c27_20.eq_1) := wp_of c27_20.eq_1
@[go_sem] theorem c27_21_wp : type_of% (wp_of c27_21.eq_1) := wp_of c27_21.eq_1
@[go_sem] theorem c27_22_wp : type_of% (wp_of c27_22.eq_1) := wp_of c27_22.eq_1
@[go_sem] theorem c27_23_wp : type_of% (wp_of c27_23.eq_1) := wp_of c27_23.eq_1
@[go_sem] theorem c27_24_wp : type_of% (wp_of c27_24.eq_1) := wp_of c27_24.eq_1
@[go_sem] theorem c27_25_wp : type_of% (wp_of c27_25.eq_1) := wp_of c27_25.eq_1
@[go_sem] theorem c27_26_wp : type_of% (wp_of c27_26.eq_1) := wp_of c27_26.eq_1
@[go_sem] theorem c27_27_wp : type_of% (wp_of c27_27.eq_1) := wp_of c27_27.eq_1
@[go_sem] theorem c27_28_wp : type_of% (wp_of c27_28.eq_1) := wp_of c27_28.eq_1
@[go_sem] theorem c27_29_wp : type_of% (wp_of c27_29.eq_1) := wp_of c27_29.eq_1
@[go_sem] theorem c27_30_wp : type_of% (wp_of c27_30.eq_1) := wp_of c27_30.eq_1
@[go_sem] theorem c27_31_wp : type_of% (wp_of c27_31.eq_1) := wp_of c27_31.eq_1
@[go_sem] theorem c27_32_wp : type_of% (wp_of c27_32.eq_1) := wp_of c27_32.eq_1
@[go_sem] theorem c27_33_wp : type_of% (wp_of c27_33.eq_1) := wp_of c27_33.eq_1
@[go_sem] theorem c27_34_wp : type_of% (wp_of c27_34.eq_1) := wp_of c27_34.eq_1
@[go_sem] theorem c27_35_wp : type_of% (wp_of c27_35.eq_1) := wp_of c27_35.eq_1
@[go_sem] theorem c27_36_wp : type_of% (wp_of c27_36.eq_1) := wp_of c27_36.eq_1
@[go_sem] theorem c27_37_wp : type_of% (wp_of c27_37.eq_1) := wp_of c27_37.eq_1
@[go_sem] theorem c27_38_wp : type_of% (wp_of c27_38.eq_1) := wp_of c27_38.eq_1
@[go_sem] theorem c27_39_wp : type_of% (wp_of c27_39.eq_1) := wp_of c27_39.eq_1
@[go_sem] theorem c27_40_wp : type_of% (wp_of c27_40.eq_1) := wp_of c27_40.eq_1
@[go_sem] theorem c27_41_wp : type_of% (wp_of c27_41.eq_1) := wp_of c27_41.eq_1
@[go_sem] theorem c27_42_wp : type_of% (wp_of c27_42.eq_1) := wp_of c27_42.eq_1
@[go_sem] theorem c27_43_wp : type_of% (wp_of c27_43.eq_1) := wp_of c27_43.eq_1
@[go_sem] theorem c27_44_wp : type_of% (wp_of c27_44.eq_1) := wp_of c27_44.eq_1
@[go_sem] theorem c27_45_wp : type_of% (wp_of c27_45.eq_1) := wp_of c27_45.eq_1
@[go_sem] theorem c27_46_wp : type_of% (wp_of c27_46.eq_1) := wp_of c27_46.eq_1
@[go_sem] theorem c27_47_wp : type_of% (wp_of c27_47.eq_1) := wp_of c27_47.eq_1
@[go_sem] theorem c27_48_wp : type_of% (wp_of c27_48.eq_1) := wp_of c27_48.eq_1
@[go_sem] theorem c27_49_wp : type_of% (wp_of c27_49.eq_1) := wp_of c27_49.eq_1
def c27 : AFn := ⟨34, [.t 2, .t 3], c27_49⟩
set_option maxRecDepth 100000 in
theorem c27_ok : compF Tryz.prog Tryz.f27 = some c27 := by kernel_rfl
theorem a27 {args : List AV} {σ : ASt} {R : AV → ASt → Prop} (hl : args.length ≤ 34) (h : c27_49.wp Tryz.prog (RetQ [.t 2, .t 3] R) (init args) σ) : ACalls Tryz.prog 27 args σ R := acalls_of Tryz.func27 c27_ok hl h

/-! 37: tabular/value.Tell -/
def c37_0 : ACode := .ops [
    ⟨(some 2), none, .e (.alloc [(.int .i64 0), (.int .i64 0), (.str [])]), []⟩]
def c37_1 : ACode := .ops [
    ⟨(some 7), none, .q (.mv (.t 0)), []⟩]
def c37_2 : ACode := .ops [
    ⟨(some 8), none, .q (.ta 80 (.int .i64 0) true (.t 7)), []⟩,
    ⟨(some 9), none, .q (.ext 1 (.t 8)), []⟩,
    ⟨(some 10), none, .q (.ext 0 (.t 8)), []⟩]
def c37_3 : ACode := .ops [
    ⟨(some 3), none, .q (.mv (.t 10)), []⟩]
def c37_4 : ACode := .ops [
    ⟨(some 11), none, .q (.mv (.t 3)), []⟩,
    ⟨(some 12), none, .q (.build [(.int .i64 0), (.int .i64 0), (.str [])] [(0, 1, (.v (.int .i64 1))), (1, 1, (.t 11))]), []⟩,
    ⟨none, none, .e (.store 3 (.t 2) (.t 12)), []⟩]
def c37_5 : ACode := .seq c37_4 .ret
def c37_6 : ACode := .seq c37_3 c37_5
def c37_7 : ACode := .ops [
    ⟨(some 13), none, .q (.ta 124 (.str []) true (.t 7)), []⟩,
    ⟨(some 14), none, .q (.ext 1 (.t 13)), []⟩,
    ⟨(some 15), none, .q (.ext 0 (.t 13)), []⟩]
def c37_8 : ACode := .ops [
    ⟨(some 4), none, .q (.mv (.t 15)), []⟩]
def c37_9 : ACode := .ops [
    ⟨(some 16), none, .q (.mv (.t 4)), []⟩,
    ⟨(some 17), none, .q (.build [(.int .i64 0), (.int .i64 0), (.str [])] [(0, 1, (.v (.int .i64 2))), (2, 1, (.t 16))]), []⟩,
    ⟨none, none, .e (.store 3 (.t 2) (.t 17)), []⟩]
def c37_10 : ACode := .seq c37_9 .ret
def c37_11 : ACode := .seq c37_8 c37_10
def c37_12 : ACode := .ops [
    ⟨(some 18), none, .q (.ta 127 (.bool false) true (.t 7)), []⟩,
    ⟨(some 19), none, .q (.ext 1 (.t 18)), []⟩,
    ⟨(some 20), none, .q (.ext 0 (.t 18)), []⟩]
def c37_13 : ACode := .ops [
    ⟨(some 5), none, .q (.mv (.t 20)), []⟩]
def c37_14 : ACode := .ops [
    ⟨(some 21), none, .q (.mv (.t 5)), []⟩]
def c37_15 : ACode := .ops [
    ⟨(some 22), none, .q (.build [(.int .i64 0), (.int .i64 0), (.str [])] [(0, 1, (.v (.int .i64 3))), (1, 1, (.v (.int .i64 1)))]), []⟩,
    ⟨none, none, .e (.store 3 (.t 2) (.t 22)), []⟩]
def c37_16 : ACode := .seq c37_15 .ret
def c37_17 : ACode := .cond (.t 21) c37_16 .skip
def c37_18 : ACode := .seq c37_14 c37_17
def c37_19 : ACode := .ops [
    ⟨(some 23), none, .q (.build [(.int .i64 0), (.int .i64 0), (.str [])] [(0, 1, (.v (.int .i64 3)))]), []⟩,
    ⟨none, none, .e (.store 3 (.t 2) (.t 23)), []⟩]
def c37_20 : ACode := .seq c37_19 .ret
def c37_21 : ACode := .seq c37_18 c37_20
def c37_22 : ACode := .seq c37_13 c37_21
def c37_23 : ACode := .ops [
    ⟨(some 24), none, .q (.ta 51 (.int .i64 0) true (.t 7)), []⟩,
    ⟨(some 25), none, .q (.ext 1 (.t 24)), []⟩,
    ⟨(some 26), none, .q (.ext 0 (.t 24)), []⟩]
def c37_24 : ACode := .ops [
    ⟨(some 6), none, .q (.mv (.t 26)), []⟩]
def c37_25 : ACode := .ops [
    ⟨(some 27), none, .q (.mv (.t 6)), []⟩,
    ⟨(some 28), none, .q (.build [(.int .i64 0), (.int .i64 0), (.str [])] [(0, 1, (.v (.int .i64 4))), (1, 1, (.t 27))]), []⟩,
    ⟨none, none, .e (.store 3 (.t 2) (.t 28)), []⟩]
def c37_26 : ACode := .seq c37_25 .ret
def c37_27 : ACode := .seq c37_24 c37_26
def c37_28 : ACode := .cond (.t 25) c37_27 .skip
def c37_29 : ACode := .seq c37_23 c37_28
def c37_30 : ACode := .cond (.t 19) c37_22 c37_29
def c37_31 : ACode := .seq c37_12 c37_30
def c37_32 : ACode := .cond (.t 14) c37_11 c37_31
def c37_33 : ACode := .seq c37_7 c37_32
def c37_34 : ACode := .cond (.t 9) c37_6 c37_33
def c37_35 : ACode := .seq c37_2 c37_34
def c37_36 : ACode := .block 0 c37_35
def c37_37 : ACode := .seq c37_1 c37_36
def c37_38 : ACode := .ops [
    ⟨(some 29), none, .q (.build [(.int .i64 0), (.int .i64 0), (.str [])] []), []⟩,
    ⟨none, none, .e (.store 3 (.t 2) (.t 29)), []⟩]
def c37_39 : ACode := .seq c37_38 .ret
def c37_40 : ACode := .seq c37_37 c37_39
def c37_41 : ACode := .seq c37_0 c37_40
@[go_sem] theorem c37_0_wp : type_of% (wp_of c37_0.eq_1) := wp_of c37_0.eq_1
@[go_sem] theorem c37_1_wp : type_of% (wp_of c37_1.eq_1) := wp_of c37_1.eq_1
@[go_sem] theorem c37_2_wp : type_of% (wp_of c37_2.eq_1) := wp_of c37_2.eq_1
@[go_sem] theorem c37_3_wp : type_of% (wp_of c37_3.eq_1) := wp_of c37_3.eq_1
@[go_sem] theorem c37_4_wp : type_of% (wp_of c37_4.eq_1) := wp_of c37_4.eq_1
@[go_sem] theorem c37_5_wp : type_of% (wp_of c37_5.eq_1) := wp_of c37_5.eq_1
@[go_sem] theorem c37_6_wp : type_of% (wp_of c37_6.eq_1) := wp_of c37_6.eq_1
@[go_sem] theorem c37_7_wp : type_of% (wp_of c37_7.eq_1) := wp_of c37_7.eq_1
@[go_sem] theorem c37_8_wp : type_of% (wp_of c37_8.eq_1) := wp_of c37_8.eq_1
@[go_sem] theorem c37_9_wp : type_of% (wp_of c37_9.eq_1) := wp_of c37_9.eq_1
@[go_sem] theorem c37_10_wp : type_of% (wp_of c37_10.eq_1) := wp_of c37_10.eq_1
@[go_sem] theorem c37_11_wp : type_of% (wp_of c37_11.eq_1) := wp_of c37_11.eq_1
@[go_sem] theorem c37_12_wp : type_of% (wp_of c37_12.eq_1) := wp_of c37_12.eq_1
@[go_sem] theorem c37_13_wp : type_of% (wp_of c37_13.eq_1) := wp_of c37_13.eq_1
@[go_sem] theorem c37_14_wp : type_of% (wp_of c37_14.eq_1) := wp_of c37_14.eq_1
@[go_sem] theorem c37_15_wp : type_of% (wp_of c37_15.eq_1) := wp_of c37_15.eq_1
@[go_sem] theorem c37_16_wp : type_of% (wp_of c37_16.eq_1) := wp_of c37_16.eq_1
@[go_sem] theorem c37_17_wp : type_of% (wp_of c37_17.eq_1) := wp_of c37_17.eq_1
@[go_sem] theorem c37_18_wp : type_of% (wp_of c37_18.eq_1) := wp_of c37_18.eq_1
@[go_sem] theorem c37_19_wp : type_of% (wp_of c37_19.eq_1) := wp_of c37_19.eq_1
@[go_sem] theorem c37_20_wp : type_of% (wp_of c37_20.eq_1) := wp_of c37_20.eq_1
@[go_sem] theorem c37_21_wp : type_of% (wp_of c37_21.eq_1) := wp_of c37_21.eq_1
@[go_sem] theorem c37_22_wp : type_of% (wp_of c37_22.eq_1) := wp_of c37_22.eq_1
@[go_sem] theorem c37_23_wp : type_of% (wp_of c37_23.eq_1) := wp_of c37_23.eq_1
@[go_sem] theorem c37_24_wp : type_of% (wp_of c37_24.eq_1) := wp_of c37_24.eq_1
@[go_sem] theorem c37_25_wp : type_of% (wp_of c37_25.eq_1) := wp_of c37_25.eq_1
@[go_sem] theorem c37_26_wp : type_of% (wp_of c37_26.eq_1) := wp_of c37_26.eq_1
@[go_sem] theorem c37_27_wp : type_of% (wp_of c37_27.eq_1) := wp_of c37_27.eq_1
@[go_sem] theorem c37_28_wp : type_of% (wp_of c37_28.eq_1) := wp_of c37_28.eq_1
@[go_sem] theorem c37_29_wp : type_of% (wp_of c37_29.eq_1) := wp_of c37_29.eq_1
@[go_sem] theorem c37_30_wp : type_of% (wp_of c37_30.eq_1) := wp_of c37_30.eq_1
@[go_sem] theorem c37_31_wp : type_of% (wp_of c37_31.eq_1) := wp_of c37_31.eq_1
@[go_sem] theorem c37_32_wp : type_of% (wp_of c37_32.eq_1) := wp_of c37_32.eq_1
@[go_sem] theorem c37_33_wp : type_of% (wp_of c37_33.eq_1) := wp_of c37_33.eq_1
@[go_sem] theorem c37_34_wp : type_of% (wp_of c37_34.eq_1) := wp_of c37_34.eq_1
@[go_sem] theorem c37_35_wp : type_of% (wp_of c37_35.eq_1) := wp_of c37_35.eq_1
@[go_sem] theorem c37_36_wp : type_of% (wp_of c37_36.eq_1) := wp_of c37_36.eq_1
@[go_sem] theorem c37_37_wp : type_of% (wp_of c37_37.eq_1) := wp_of c37_37.eq_1
@[go_sem] theorem c37_38_wp : type_of% (wp_of c37_38.eq_1) := wp_of c37_38.eq_1
@[go_sem] theorem c37_39_wp : type_of% (wp_of c37_39.eq_1) := wp_of c37_39.eq_1
@[go_sem] theorem c37_40_wp : type_of% (wp_of c37_40.eq_1) := wp_of c37_40.eq_1
@[go_sem] theorem c37_41_wp : type_of% (wp_of c37_41.eq_1) := wp_of c37_41.eq_1
def c37 : AFn := ⟨30, [.c 2 (some 3)], c37_41⟩
set_option maxRecDepth 100000 in
theorem c37_ok : compF Tryz.prog Tryz.f37 = some c37 := by kernel_rfl
theorem a37 {args : List AV} {σ : ASt} {R : AV → ASt → Prop} (hl : args.length ≤ 30) (h : c37_41.wp Tryz.prog (RetQ [.c 2 (some 3)] R) (init args) σ) : ACalls Tryz.prog 37 args σ R := acalls_of Tryz.func37 c37_ok hl h

/-! 43: tabular/value.Counted -/
def c43_0 : ACode := .ops [
    ⟨(some 4), none, .q (.mv (.v .nili)), []⟩]
def c43_1 : ACode := .ops [
    ⟨(some 5), none, .q (.mv (.t 1)), []⟩,
    ⟨(some 6), none, .q (.un .not (.t 5)), []⟩]
def c43_2 : ACode := .ops [
    ⟨(some 7), none, .q (.mki 51 (.v (.int .i64 2))), []⟩,
    ⟨(some 4), none, .q (.mv (.t 7)), []⟩]
def c43_3 : ACode := .seq c43_2 .ret
def c43_4 : ACode := .cond (.t 6) c43_3 .skip
def c43_5 : ACode := .seq c43_1 c43_4
def c43_6 : ACode := .ops [
    ⟨(some 8), none, .q (.mv (.t 0)), []⟩,
    ⟨(some 9), none, .q (.mki 80 (.t 8)), []⟩,
    ⟨(some 4), none, .q (.mv (.t 9)), []⟩]
def c43_7 : ACode := .seq c43_6 .ret
def c43_8 : ACode := .seq c43_5 c43_7
def c43_9 : ACode := .seq c43_0 c43_8
@[go_sem] theorem c43_0_wp : type_of% (wp_of c43_0.eq_1) := wp_of c43_0.eq_1
@[go_sem] theorem c43_1_wp : type_of% (wp_of c43_1.eq_1) := wp_of c43_1.eq_1
@[go_sem] theorem c43_2_wp : type_of% (wp_of c43_2.eq_1) := wp_of c43_2.eq_1
@[go_sem] theorem c43_3_wp : type_of% (wp_of c43_3.eq_1) := wp_of c43_3.eq_1
@[go_sem] theorem c43_4_wp : type_of% (wp_of c43_4.eq_1) := wp_of c43_4.eq_1
@[go_sem] theorem c43_5_wp : type_of% (wp_of c43_5.eq_1) := wp_of c43_5.eq_1
@[go_sem] theorem c43_6_wp : type_of% (wp_of c43_6.eq_1) := wp_of c43_6.eq_1
@[go_sem] theorem c43_7_wp : type_of% (wp_of c43_7.eq_1) := wp_of c43_7.eq_1
@[go_sem] theorem c43_8_wp : type_of% (wp_of c43_8.eq_1) := wp_of c43_8.eq_1
@[go_sem] theorem c43_9_wp : type_of% (wp_of c43_9.eq_1) := wp_of c43_9.eq_1
def c43 : AFn := ⟨10, [.t 4], c43_9⟩
set_option maxRecDepth 100000 in
theorem c43_ok : compF Tryz.prog Tryz.f43 = some c43 := by kernel_rfl
theorem a43 {args : List AV} {σ : ASt} {R : AV → ASt → Prop} (hl : args.length ≤ 10) (h : c43_9.wp Tryz.prog (RetQ [.t 4] R) (init args) σ) : ACalls Tryz.prog 43 args σ R := acalls_of Tryz.func43 c43_ok hl h

/-! 59: tabular/value.One -/
def c59_0 : ACode := .ops [
    ⟨(some 2), none, .e (.alloc [(.int .i64 0), (.int .i64 0), (.bool false), (.sl .full [])]), []⟩]
def c59_1 : ACode := .ops [
    ⟨(some 3), none, .q (.mv (.t 0)), []⟩,
    ⟨(some 4), none, .q (.bsl 1 [(.t 3)]), []⟩,
    ⟨(some 5), none, .q (.build [(.int .i64 0), (.int .i64 0), (.bool false), (.sl .full [])] [(0, 1, (.v (.int .i64 1))), (1, 1, (.v (.int .i64 1))), (3, 1, (.t 4))]), []⟩,
    ⟨none, none, .e (.store 4 (.t 2) (.t 5)), []⟩]
def c59_2 : ACode := .seq c59_1 .ret
def c59_3 : ACode := .seq c59_0 c59_2
@[go_sem] theorem c59_0_wp : type_of% (wp_of c59_0.eq_1) := wp_of c59_0.eq_1
@[go_sem] theorem c59_1_wp : type_of% (wp_of c59_1.eq_1) := wp_of c59_1.eq_1
@[go_sem] theorem c59_2_wp : type_of% (wp_of c59_2.eq_1) := wp_of c59_2.eq_1
@[go_sem] theorem c59_3_wp : type_of% (wp_of c59_3.eq_1) := wp_of c59_3.eq_1
def c59 : AFn := ⟨6, [.c 2 (some 4)], c59_3⟩
set_option maxRecDepth 100000 in
theorem c59_ok : compF Tryz.prog Tryz.f59 = some c59 := by kernel_rfl
theorem a59 {args : List AV} {σ : ASt} {R : AV → ASt → Prop} (hl : args.length ≤ 6) (h : c59_3.wp Tryz.prog (RetQ [.c 2 (some 4)] R) (init args) σ) : ACalls Tryz.prog 59 args σ R := acalls_of Tryz.func59 c59_ok hl h

/-! 60: tabular/value.Of -/
def c60_0 : ACode := .ops [
    ⟨(some 1), none, .e (.box (.t 0)), []⟩,
    ⟨(some 2), none, .q (.mv (.v .nili)), []⟩]
def c60_1 : ACode := .ops [
    ⟨(some 5), none, .q (.fa 0 (.t 1)), []⟩,
    ⟨(some 6), none, .q (.ld none (.t 5)), []⟩]
def c60_2 : ACode := .ops [
    ⟨(some 8), none, .q (.bin .eql (.t 6) (.v (.int .i64 1))), []⟩,
    ⟨(some 7), none, .q (.mv (.t 8)), []⟩]
def c60_3 : ACode := .ops [
    ⟨(some 9), none, .q (.fa 1 (.t 1)), []⟩,
    ⟨(some 10), none, .q (.ld none (.t 9)), []⟩,
    ⟨(some 11), none, .e (.call 124 [(.t 10)]), []⟩]
def c60_4 : ACode := .ops [
    ⟨(some 12), none, .q (.fa 1 (.t 1)), []⟩,
    ⟨(some 13), none, .q (.ld none (.t 12)), []⟩,
    ⟨(some 14), none, .q (.mki 80 (.t 13)), []⟩,
    ⟨(some 2), none, .q (.mv (.t 14)), []⟩]
def c60_5 : ACode := .seq c60_4 .ret
def c60_6 : ACode := .cond (.t 11) c60_5 .skip
def c60_7 : ACode := .seq c60_3 c60_6
def c60_8 : ACode := .ops [
    ⟨(some 16), none, .q (.bin .eql (.t 6) (.v (.int .i64 2))), []⟩,
    ⟨(some 15), none, .q (.mv (.t 16)), []⟩]
def c60_9 : ACode := .ops [
    ⟨(some 18), none, .q (.fa 2 (.t 1)), []⟩,
    ⟨(some 19), none, .q (.ld none (.t 18)), []⟩,
    ⟨(some 20), none, .e (.call 125 [(.t 19)]), []⟩,
    ⟨(some 17), none, .q (.mv (.t 20)), []⟩,
    ⟨(some 21), none, .q (.ext 0 (.t 17)), []⟩,
    ⟨(some 22), none, .q (.ext 1 (.t 17)), []⟩,
    ⟨(some 3), none, .q (.mv (.t 21)), []⟩,
    ⟨(some 4), none, .q (.mv (.t 22)), []⟩]
def c60_10 : ACode := .ops [
    ⟨(some 23), none, .q (.mv (.t 4)), []⟩,
    ⟨(some 24), none, .q (.mv (.t 23)), []⟩,
    ⟨(some 25), (some (24, true)), .q (.fa 2 (.t 1)), []⟩,
    ⟨(some 26), (some (24, true)), .q (.ld none (.t 25)), []⟩,
    ⟨(some 27), (some (24, true)), .q (.lenS (.t 26)), []⟩,
    ⟨(some 28), (some (24, true)), .q (.bin .leq (.t 27) (.v (.int .i64 2000))), []⟩,
    ⟨(some 29), none, .q (.pick (.t 24) (.t 28) (.v (.bool false))), []⟩]
def c60_11 : ACode := .ops [
    ⟨(some 30), none, .q (.fa 2 (.t 1)), []⟩,
    ⟨(some 31), none, .q (.ld none (.t 30)), []⟩,
    ⟨(some 32), none, .q (.mki 124 (.t 31)), []⟩,
    ⟨(some 2), none, .q (.mv (.t 32)), []⟩]
def c60_12 : ACode := .seq c60_11 .ret
def c60_13 : ACode := .cond (.t 29) c60_12 .skip
def c60_14 : ACode := .seq c60_10 c60_13
def c60_15 : ACode := .seq c60_9 c60_14
def c60_16 : ACode := .ops [
    ⟨(some 34), none, .q (.bin .eql (.t 6) (.v (.int .i64 3))), []⟩,
    ⟨(some 33), none, .q (.mv (.t 34)), []⟩]
def c60_17 : ACode := .ops [
    ⟨(some 35), none, .q (.fa 1 (.t 1)), []⟩,
    ⟨(some 36), none, .q (.ld none (.t 35)), []⟩,
    ⟨(some 37), none, .q (.bin .eql (.t 36) (.v (.int .i64 1))), []⟩,
    ⟨(some 38), none, .q (.mki 127 (.t 37)), []⟩,
    ⟨(some 2), none, .q (.mv (.t 38)), []⟩]
def c60_18 : ACode := .seq c60_17 .ret
def c60_19 : ACode := .ops [
    ⟨(some 40), none, .q (.bin .eql (.t 6) (.v (.int .i64 4))), []⟩,
    ⟨(some 39), none, .q (.mv (.t 40)), []⟩]
def c60_20 : ACode := .ops [
    ⟨(some 41), none, .q (.fa 1 (.t 1)), []⟩,
    ⟨(some 42), none, .q (.ld none (.t 41)), []⟩,
    ⟨(some 43), none, .q (.bin .geq (.t 42) (.v (.int .i64 1))), []⟩,
    ⟨(some 44), none, .q (.mv (.t 43)), []⟩,
    ⟨(some 45), (some (44, true)), .q (.fa 1 (.t 1)), []⟩,
    ⟨(some 46), (some (44, true)), .q (.ld none (.t 45)), []⟩,
    ⟨(some 47), (some (44, true)), .e (.call 111 []), [⟨(some (44, true)), .ld none (.t 45), 46⟩]⟩,
    ⟨(some 48), (some (44, true)), .q (.len (.t 47)), []⟩,
    ⟨(some 49), (some (44, true)), .q (.bin .leq (.t 46) (.t 48)), []⟩,
    ⟨(some 50), none, .q (.pick (.t 44) (.t 49) (.v (.bool false))), []⟩]
def c60_21 : ACode := .ops [
    ⟨(some 51), none, .q (.fa 1 (.t 1)), []⟩,
    ⟨(some 52), none, .q (.ld none (.t 51)), []⟩,
    ⟨(some 53), none, .q (.mki 51 (.t 52)), []⟩,
    ⟨(some 2), none, .q (.mv (.t 53)), []⟩]
def c60_22 : ACode := .seq c60_21 .ret
def c60_23 : ACode := .cond (.t 50) c60_22 .skip
def c60_24 : ACode := .seq c60_20 c60_23
def c60_25 : ACode := .cond (.t 39) c60_24 .skip
def c60_26 : ACode := .seq c60_19 c60_25
def c60_27 : ACode := .cond (.t 33) c60_18 c60_26
def c60_28 : ACode := .seq c60_16 c60_27
def c60_29 : ACode := .cond (.t 15) c60_15 c60_28
def c60_30 : ACode := .seq c60_8 c60_29
def c60_31 : ACode := .cond (.t 7) c60_7 c60_30
def c60_32 : ACode := .seq c60_2 c60_31
def c60_33 : ACode := .block 0 c60_32
def c60_34 : ACode := .seq c60_1 c60_33
def c60_35 : ACode := .ops [
    ⟨(some 54), none, .q (.build [] []), []⟩,
    ⟨(some 55), none, .q (.mki 143 (.t 54)), []⟩,
    ⟨(some 2), none, .q (.mv (.t 55)), []⟩]
def c60_36 : ACode := .seq c60_35 .ret
def c60_37 : ACode := .seq c60_34 c60_36
def c60_38 : ACode := .seq c60_0 c60_37
@[go_sem] theorem c60_0_wp : type_of% (wp_of c60_0.eq_1) := wp_of c60_0.eq_1
@[go_sem] theorem c60_1_wp : type_of% (wp_of c60_1.eq_1) := wp_of c60_1.eq_1
@[go_sem] theorem c60_2_wp : type_of% (wp_of c60_2.eq_1) := wp_of c60_2.eq_1
@[go_sem] theorem c60_3_wp : type_of% (wp_of c60_3.eq_1) := wp_of c60_3.eq_1
@[go_sem] theorem c60_4_wp : type_of% (wp_of c60_4.eq_1) := wp_of c60_4.eq_1
@[go_sem] theorem c60_5_wp : type_of% (wp_of c60_5.eq_1) := wp_of c60_5.eq_1
@[go_sem] theorem c60_6_wp : type_of% (wp_of c60_6.eq_1) := wp_of c60_6.eq_1
@[go_sem] theorem c60_7_wp : type_of% (wp_of c60_7.eq_1) := wp_of c60_7.eq_1
@[go_sem] theorem c60_8_wp : type_of% (wp_of c60_8.eq_1) := wp_of c60_8.eq_1
@[go_sem] theorem c60_9_wp : type_of% (wp_of c60_9.eq_1) := wp_of c60_9.eq_1
@[go_sem] theorem c60_10_wp : type_of% (wp_of c60_10.eq_1) := wp_of c60_10.eq_1
@[go_sem] theorem c60_11_wp : type_of% (wp_of c60_11.eq_1) := wp_of c60_11.eq_1
@[go_sem] theorem c60_12_wp : type_of% (wp_of c60_12.eq_1) := wp_of c60_12.eq_1
@[go_sem] theorem c60_13_wp : type_of% (wp_of c60_13.eq_1) := wp_of c60_13.eq_1
@[go_sem] theorem c60_14_wp : type_of% (wp_of c60_14.eq_1) := wp_of c60_14.eq_1
@[go_sem] theorem c60_15_wp : type_of% (wp_of c60_15.eq_1) := wp_of c60_15.eq_1
@[go_sem] theorem c60_16_wp : type_of% (wp_of c60_16.eq_1) := wp_of c60_16.eq_1
@[go_sem] theorem c60_17_wp : type_of% (wp_of c60_17.eq_1) := wp_of c60_17.eq_1
@[go_sem] theorem c60_18_wp : type_of% (wp_of c60_18.eq_1) := wp_of c60_18.eq_1
@[go_sem] theorem c60_19_wp : type_of% (wp_of c60_19.eq_1) := wp_of c60_19.eq_1
@[go_sem] theorem c60_20_wp : type_of% (wp_of c60_20.eq_1) := wp_of c60_20.eq_1
@[go_sem] theorem c60_21_wp : type_of% (wp_of c60_21.eq_1) := wp_of c60_21.eq_1
@[go_sem] theorem c60_22_wp : type_of% (wp_of c60_22.eq_1) := wp_of c60_22.eq_1
@[go_sem] theorem c60_23_wp : type_of% (wp_of c60_23.eq_1) := wp_of c60_23.eq_1
@[go_sem] theorem c60_24_wp : type_of% (wp_of c60_24.eq_1) := wp_of c60_24.eq_1
@[go_sem] theorem c60_25_wp : type_of% (wp_of c60_25.eq_1) := wp_of c60_25.eq_1
@[go_sem] theorem c60_26_wp : type_of% (wp_of c60_26.eq_1) := wp_of c60_26.eq_1
@[go_sem] theorem c60_27_wp : type_of% (wp_of c60_27.eq_1) := wp_of c60_27.eq_1
@[go_sem] theorem c60_28_wp : type_of% (wp_of c60_28.eq_1) := wp_of c60_28.eq_1
@[go_sem] theorem c60_29_wp : type_of% (wp_of c60_29.eq_1) := wp_of c60_29.eq_1
@[go_sem] theorem c60_30_wp : type_of% (wp_of c60_30.eq_1) := wp_of c60_30.eq_1
@[go_sem] theorem c60_31_wp : type_of% (wp_of c60_31.eq_1) := wp_of c60_31.eq_1
@[go_sem] theorem c60_32_wp : type_of% (wp_of c60_32.eq_1) := wp_of c60_32.eq_1
@[go_sem] theorem c60_33_wp : type_of% (wp_of c60_33.eq_1) := wp_of c60_33.eq_1
@[go_sem] theorem c60_34_wp : type_of% (wp_of c60_34.eq_1) := wp_of c60_34.eq_1
@[go_sem] theorem c60_35_wp : type_of% (wp_of c60_35.eq_1) := wp_of c60_35.eq_1
@[go_sem] theorem c60_36_wp : type_of% (wp_of c60_36.eq_1) := wp_of c60_36.eq_1
@[go_sem] theorem c60_37_wp : type_of% (wp_of c60_37.eq_1) := wp_of c60_37.eq_1
@[go_sem] theorem c60_38_wp : type_of% (wp_of c60_38.eq_1) := wp_of c60_38.eq_1
def c60 : AFn := ⟨56, [.t 2], c60_38⟩
set_option maxRecDepth 100000 in
theorem c60_ok : compF Tryz.prog Tryz.f60 = some c60 := by kernel_rfl
theorem a60 {args : List AV} {σ : ASt} {R : AV → ASt → Prop} (hl : args.length ≤ 56) (h : c60_38.wp Tryz.prog (RetQ [.t 2] R) (init args) σ) : ACalls Tryz.prog 60 args σ R := acalls_of Tryz.func60 c60_ok hl h

/-! 79: (tabular/value.Arg).Value -/
def c79_0 : ACode := .ops [
    ⟨(some 1), none, .e (.box (.t 0)), []⟩,
    ⟨(some 2), none, .q (.mv (.v .nili)), []⟩]
def c79_1 : ACode := .ops [
    ⟨(some 3), none, .q (.fa 3 (.t 1)), []⟩,
    ⟨(some 4), none, .q (.ld none (.t 3)), []⟩,
    ⟨(some 5), none, .q (.len (.t 4)), []⟩,
    ⟨(some 6), none, .q (.bin .neq (.t 5) (.v (.int .i64 1))), []⟩]
def c79_2 : ACode := .ops [
    ⟨(some 7), none, .q (.mki 51 (.v (.int .i64 3))), []⟩,
    ⟨(some 2), none, .q (.mv (.t 7)), []⟩]
def c79_3 : ACode := .seq c79_2 .ret
def c79_4 : ACode := .cond (.t 6) c79_3 .skip
def c79_5 : ACode := .seq c79_1 c79_4
def c79_6 : ACode := .ops [
    ⟨(some 8), none, .q (.fa 3 (.t 1)), []⟩,
    ⟨(some 9), none, .q (.ld none (.t 8)), []⟩,
    ⟨(some 10), none, .q (.ia 1 (.t 9) (.v (.int .i64 0))), []⟩,
    ⟨(some 11), none, .q (.ld none (.t 10)), []⟩,
    ⟨(some 2), none, .q (.mv (.t 11)), []⟩]
def c79_7 : ACode := .seq c79_6 .ret
def c79_8 : ACode := .seq c79_5 c79_7
def c79_9 : ACode := .seq c79_0 c79_8
@[go_sem] theorem c79_0_wp : type_of% (wp_of c79_0.eq_1) := wp_of c79_0.eq_1
@[go_sem] theorem c79_1_wp : type_of% (wp_of c79_1.eq_1) := wp_of c79_1.eq_1
@[go_sem] theorem c79_2_wp : type_of% (wp_of c79_2.eq_1) := wp_of c79_2.eq_1
@[go_sem] theorem c79_3_wp : type_of% (wp_of c79_3.eq_1) := wp_of c79_3.eq_1
@[go_sem] theorem c79_4_wp : type_of% (wp_of c79_4.eq_1) := wp_of c79_4.eq_1
@[go_sem] theorem c79_5_wp : type_of% (wp_of c79_5.eq_1) := wp_of c79_5.eq_1
@[go_sem] theorem c79_6_wp : type_of% (wp_of c79_6.eq_1) := wp_of c79_6.eq_1
@[go_sem] theorem c79_7_wp : type_of% (wp_of c79_7.eq_1) := wp_of c79_7.eq_1
@[go_sem] theorem c79_8_wp : type_of% (wp_of c79_8.eq_1) := wp_of c79_8.eq_1
@[go_sem] theorem c79_9_wp : type_of% (wp_of c79_9.eq_1) := wp_of c79_9.eq_1
def c79 : AFn := ⟨12, [.t 2], c79_9⟩
set_option maxRecDepth 100000 in
theorem c79_ok : compF Tryz.prog Tryz.f79 = some c79 := by kernel_rfl
theorem a79 {args : List AV} {σ : ASt} {R : AV → ASt → Prop} (hl : args.length ≤ 12) (h : c79_9.wp Tryz.prog (RetQ [.t 2] R) (init args) σ) : ACalls Tryz.prog 79 args σ R := acalls_of Tryz.func79 c79_ok hl h

/-! 89: tabular/value.Given -/
def c89_0 : ACode := .ops [
    ⟨(some 2), none, .q (.mv (.v (.int .i64 0))), []⟩,
    ⟨(some 3), none, .q (.mv (.v (.bool false))), []⟩]
def c89_1 : ACode := .ops [
    ⟨(some 7), none, .q (.mv (.t 0)), []⟩,
    ⟨(some 8), none, .q (.ta 80 (.int .i64 0) true (.t 7)), []⟩,
    ⟨(some 6), none, .q (.mv (.t 8)), []⟩,
    ⟨(some 9), none, .q (.ext 0 (.t 6)), []⟩,
    ⟨(some 10), none, .q (.ext 1 (.t 6)), []⟩,
    ⟨(some 4), none, .q (.mv (.t 9)), []⟩,
    ⟨(some 5), none, .q (.mv (.t 10)), []⟩]
def c89_2 : ACode := .ops [
    ⟨(some 11), none, .q (.mv (.t 4)), []⟩,
    ⟨(some 12), none, .q (.mv (.t 5)), []⟩,
    ⟨(some 2), none, .q (.mv (.t 11)), []⟩,
    ⟨(some 3), none, .q (.mv (.t 12)), []⟩]
def c89_3 : ACode := .seq c89_2 .ret
def c89_4 : ACode := .seq c89_1 c89_3
def c89_5 : ACode := .seq c89_0 c89_4
@[go_sem] theorem c89_0_wp : type_of% (wp_of c89_0.eq_1) := wp_of c89_0.eq_1
@[go_sem] theorem c89_1_wp : type_of% (wp_of c89_1.eq_1) := wp_of c89_1.eq_1
@[go_sem] theorem c89_2_wp : type_of% (wp_of c89_2.eq_1) := wp_of c89_2.eq_1
@[go_sem] theorem c89_3_wp : type_of% (wp_of c89_3.eq_1) := wp_of c89_3.eq_1
@[go_sem] theorem c89_4_wp : type_of% (wp_of c89_4.eq_1) := wp_of c89_4.eq_1
@[go_sem] theorem c89_5_wp : type_of% (wp_of c89_5.eq_1) := wp_of c89_5.eq_1
def c89 : AFn := ⟨13, [.t 2, .t 3], c89_5⟩
set_option maxRecDepth 100000 in
theorem c89_ok : compF Tryz.prog Tryz.f89 = some c89 := by kernel_rfl
theorem a89 {args : List AV} {σ : ASt} {R : AV → ASt → Prop} (hl : args.length ≤ 13) (h : c89_5.wp Tryz.prog (RetQ [.t 2, .t 3] R) (init args) σ) : ACalls Tryz.prog 89 args σ R := acalls_of Tryz.func89 c89_ok hl h

/-! 91: tabular/value.Failed -/
def c91_0 : ACode := .ops [
    ⟨(some 2), none, .q (.mv (.v (.int .i64 0))), []⟩,
    ⟨(some 3), none, .q (.mv (.v (.bool false))), []⟩]
def c91_1 : ACode := .ops [
    ⟨(some 7), none, .q (.mv (.t 0)), []⟩,
    ⟨(some 8), none, .q (.ta 51 (.int .i64 0) true (.t 7)), []⟩,
    ⟨(some 6), none, .q (.mv (.t 8)), []⟩,
    ⟨(some 9), none, .q (.ext 0 (.t 6)), []⟩,
    ⟨(some 10), none, .q (.ext 1 (.t 6)), []⟩,
    ⟨(some 4), none, .q (.mv (.t 9)), []⟩,
    ⟨(some 5), none, .q (.mv (.t 10)), []⟩]
def c91_2 : ACode := .ops [
    ⟨(some 11), none, .q (.mv (.t 4)), []⟩,
    ⟨(some 12), none, .q (.mv (.t 5)), []⟩,
    ⟨(some 2), none, .q (.mv (.t 11)), []⟩,
    ⟨(some 3), none, .q (.mv (.t 12)), []⟩]
def c91_3 : ACode := .seq c91_2 .ret
def c91_4 : ACode := .seq c91_1 c91_3
def c91_5 : ACode := .seq c91_0 c91_4
@[go_sem] theorem c91_0_wp : type_of% (wp_of c91_0.eq_1) := wp_of c91_0.eq_1
@[go_sem] theorem c91_1_wp : type_of% (wp_of c91_1.eq_1) := wp_of c91_1.eq_1
@[go_sem] theorem c91_2_wp : type_of% (wp_of c91_2.eq_1) := wp_of c91_2.eq_1
@[go_sem] theorem c91_3_wp : type_of% (wp_of c91_3.eq_1) := wp_of c91_3.eq_1
@[go_sem] theorem c91_4_wp : type_of% (wp_of c91_4.eq_1) := wp_of c91_4.eq_1
@[go_sem] theorem c91_5_wp : type_of% (wp_of c91_5.eq_1) := wp_of c91_5.eq_1
def c91 : AFn := ⟨13, [.t 2, .t 3], c91_5⟩
set_option maxRecDepth 100000 in
theorem c91_ok : compF Tryz.prog Tryz.f91 = some c91 := by kernel_rfl
theorem a91 {args : List AV} {σ : ASt} {R : AV → ASt → Prop} (hl : args.length ≤ 13) (h : c91_5.wp Tryz.prog (RetQ [.t 2, .t 3] R) (init args) σ) : ACalls Tryz.prog 91 args σ R := acalls_of Tryz.func91 c91_ok hl h

/-! 101: tabular/value.trim -/
def c101_0 : ACode := .ops [
    ⟨(some 2), none, .q (.mv (.v (.str []))), []⟩]
def c101_1 : ACode := .ops [
    ⟨(some 3), none, .q (.mv (.t 0)), []⟩,
    ⟨(some 4), none, .e (.call 145 [(.t 3), (.v (.str [32]))]), []⟩,
    ⟨(some 2), none, .q (.mv (.t 4)), []⟩]
def c101_2 : ACode := .seq c101_1 .ret
def c101_3 : ACode := .seq c101_0 c101_2
@[go_sem] theorem c101_0_wp : type_of% (wp_of c101_0.eq_1) := wp_of c101_0.eq_1
@[go_sem] theorem c101_1_wp : type_of% (wp_of c101_1.eq_1) := wp_of c101_1.eq_1
@[go_sem] theorem c101_2_wp : type_of% (wp_of c101_2.eq_1) := wp_of c101_2.eq_1
@[go_sem] theorem c101_3_wp : type_of% (wp_of c101_3.eq_1) := wp_of c101_3.eq_1
def c101 : AFn := ⟨5, [.t 2], c101_3⟩
set_option maxRecDepth 100000 in
theorem c101_ok : compF Tryz.prog Tryz.f101 = some c101 := by kernel_rfl
theorem a101 {args : List AV} {σ : ASt} {R : AV → ASt → Prop} (hl : args.length ≤ 5) (h : c101_3.wp Tryz.prog (RetQ [.t 2] R) (init args) σ) : ACalls Tryz.prog 101 args σ R := acalls_of Tryz.func101 c101_ok hl h

/-! 111: tabular/token.Errors -/
def c111_0 : ACode := .ops [
    ⟨(some 0), none, .q (.mv (.v (.sl .full []))), []⟩]
def c111_1 : ACode := .ops [
    ⟨(some 1), none, .q (.bsl 1 [(.v (.str [35, 68, 73, 86, 47, 48, 33])), (.v (.str [35, 78, 85, 77, 33])), (.v (.str [35, 86, 65, 76, 85, 69, 33])), (.v (.str [35, 82, 69, 70, 33])), (.v (.str [35, 78, 47, 65])), (.v (.str [35, 78, 65, 77, 69, 63])), (.v (.str [35, 67, 89, 67, 76, 69, 33]))]), []⟩,
    ⟨(some 0), none, .q (.mv (.t 1)), []⟩]
def c111_2 : ACode := .seq c111_1 .ret
def c111_3 : ACode := .seq c111_0 c111_2
@[go_sem] theorem c111_0_wp : type_of% (wp_of c111_0.eq_1) := wp_of c111_0.eq_1
@[go_sem] theorem c111_1_wp : type_of% (wp_of c111_1.eq_1) := wp_of c111_1.eq_1
@[go_sem] theorem c111_2_wp : type_of% (wp_of c111_2.eq_1) := wp_of c111_2.eq_1
@[go_sem] theorem c111_3_wp : type_of% (wp_of c111_3.eq_1) := wp_of c111_3.eq_1
def c111 : AFn := ⟨2, [.t 0], c111_3⟩
set_option maxRecDepth 100000 in
theorem c111_ok : compF Tryz.prog Tryz.f111 = some c111 := by kernel_rfl
theorem a111 {args : List AV} {σ : ASt} {R : AV → ASt → Prop} (hl : args.length ≤ 2) (h : c111_3.wp Tryz.prog (RetQ [.t 0] R) (init args) σ) : ACalls Tryz.prog 111 args σ R := acalls_of Tryz.func111 c111_ok hl h

/-! 125: tabular/token.Signs -/
def c125_0 : ACode := .ops [
    ⟨(some 2), none, .q (.mv (.v (.int .i64 0))), []⟩,
    ⟨(some 3), none, .q (.mv (.v (.bool false))), []⟩]
def c125_1 : ACode := .ops [
    ⟨(some 4), none, .q (.mv (.v (.int .i64 0))), []⟩]
def c125_2 : ACode := .ops [
    ⟨(some 9), none, .q (.mv (.t 0)), []⟩,
    ⟨(some 10), none, .e (.rng (.t 9)), []⟩]
def c125_3 : ACode := .ops [
    ⟨(some 11), none, .e (.nxt (.t 10)), []⟩,
    ⟨(some 12), none, .q (.ext 0 (.t 11)), []⟩]
def c125_4 : ACode := .cond (.t 12) .skip (.exit 0)
def c125_5 : ACode := .ops [
    ⟨(some 13), none, .q (.ext 1 (.t 11)), []⟩,
    ⟨(some 14), none, .q (.ext 2 (.t 11)), []⟩,
    ⟨(some 5), none, .q (.mv (.t 13)), []⟩,
    ⟨(some 6), none, .q (.mv (.t 14)), []⟩]
def c125_6 : ACode := .ops [
    ⟨(some 15), none, .q (.mv (.t 6)), []⟩,
    ⟨(some 16), none, .q (.bin .eql (.t 15) (.v (.int .i32 65533))), []⟩]
def c125_7 : ACode := .ops [
    ⟨(some 18), none, .q (.mv (.t 0)), []⟩,
    ⟨(some 19), none, .q (.mv (.t 5)), []⟩,
    ⟨(some 20), none, .q (.slfrom (true, 0) (.t 18) (.t 19)), []⟩,
    ⟨(some 21), none, .e (.call 149 [(.t 20)]), []⟩,
    ⟨(some 17), none, .q (.mv (.t 21)), []⟩,
    ⟨(some 22), none, .q (.ext 0 (.t 17)), []⟩,
    ⟨(some 23), none, .q (.ext 1 (.t 17)), []⟩,
    ⟨(some 7), none, .q (.mv (.t 22)), []⟩,
    ⟨(some 8), none, .q (.mv (.t 23)), []⟩]
def c125_8 : ACode := .ops [
    ⟨(some 24), none, .q (.mv (.t 8)), []⟩,
    ⟨(some 25), none, .q (.bin .eql (.t 24) (.v (.int .i64 1))), []⟩]
def c125_9 : ACode := .ops [
    ⟨(some 2), none, .q (.mv (.v (.int .i64 0))), []⟩,
    ⟨(some 3), none, .q (.mv (.v (.bool false))), []⟩]
def c125_10 : ACode := .seq c125_9 .ret
def c125_11 : ACode := .cond (.t 25) c125_10 .skip
def c125_12 : ACode := .seq c125_8 c125_11
def c125_13 : ACode := .seq c125_7 c125_12
def c125_14 : ACode := .cond (.t 16) c125_13 .skip
def c125_15 : ACode := .seq c125_6 c125_14
def c125_16 : ACode := .ops [
    ⟨(some 26), none, .q (.mv (.t 4)), []⟩,
    ⟨(some 27), none, .q (.bin .add (.t 26) (.v (.int .i64 1))), []⟩,
    ⟨(some 4), none, .q (.mv (.t 27)), []⟩]
def c125_17 : ACode := .seq c125_15 c125_16
def c125_18 : ACode := .seq c125_5 c125_17
def c125_19 : ACode := .block 1 c125_18
def c125_20 : ACode := .seq c125_4 c125_19
def c125_21 : ACode := .seq c125_3 c125_20
def c125_22 : ACode := .loop c125_21
def c125_23 : ACode := .block 0 c125_22
def c125_24 : ACode := .seq c125_2 c125_23
def c125_25 : ACode := .ops [
    ⟨(some 28), none, .q (.mv (.t 4)), []⟩,
    ⟨(some 2), none, .q (.mv (.t 28)), []⟩,
    ⟨(some 3), none, .q (.mv (.v (.bool true))), []⟩]
def c125_26 : ACode := .seq c125_25 .ret
def c125_27 : ACode := .seq c125_24 c125_26
def c125_28 : ACode := .seq c125_1 c125_27
def c125_29 : ACode := .seq c125_0 c125_28
@[go_sem] theorem c125_0_wp : type_of% (wp_of c125_0.eq_1) := wp_of c125_0.eq_1
@[go_sem] theorem c125_1_wp : type_of% (wp_of c125_1.eq_1) := wp_of c125_1.eq_1
@[go_sem] theorem c125_2_wp : type_of% (wp_of c125_2.eq_1) := wp_of c125_2.eq_1
@[go_sem] theorem c125_3_wp : type_of% (wp_of c125_3.eq_1) := wp_of c125_3.eq_1
@[go_sem] theorem c125_4_wp : type_of% (wp_of c125_4.eq_1) := wp_of c125_4.eq_1
@[go_sem] theorem c125_5_wp : type_of% (wp_of c125_5.eq_1) := wp_of c125_5.eq_1
@[go_sem] theorem c125_6_wp : type_of% (wp_of c125_6.eq_1) := wp_of c125_6.eq_1
@[go_sem] theorem c125_7_wp : type_of% (wp_of c125_7.eq_1) := wp_of c125_7.eq_1
@[go_sem] theorem c125_8_wp : type_of% (wp_of c125_8.eq_1) := wp_of c125_8.eq_1
@[go_sem] theorem c125_9_wp : type_of% (wp_of c125_9.eq_1) := wp_of c125_9.eq_1
@[go_sem] theorem c125_10_wp : type_of% (wp_of c125_10.eq_1) := wp_of c125_10.eq_1
@[go_sem] theorem c125_11_wp : type_of% (wp_of c125_11.eq_1) := wp_of c125_11.eq_1
@[go_sem] theorem c125_12_wp : type_of% (wp_of c125_12.eq_1) := wp_of c125_12.eq_1
@[go_sem] theorem c125_13_wp : type_of% (wp_of c125_13.eq_1) := wp_of c125_13.eq_1
@[go_sem] theorem c125_14_wp : type_of% (wp_of c125_14.eq_1) := wp_of c125_14.eq_1
@[go_sem] theorem c125_15_wp : type_of% (wp_of c125_15.eq_1) := wp_of c125_15.eq_1
@[go_sem] theorem c125_16_wp : type_of% (wp_of c125_16.eq_1) := wp_of c125_16.eq_1
@[go_sem] theorem c125_17_wp : type_of% (wp_of c125_17.eq_1) := wp_of c125_17.eq_1
@[go_sem] theorem c125_18_wp : type_of% (wp_of c125_18.eq_1) := wp_of c125_18.eq_1
@[go_sem] theorem c125_19_wp : type_of% (wp_of c125_19.eq_1) := wp_of c125_19.eq_1
@[go_sem] theorem c125_20_wp : type_of% (wp_of c125_20.eq_1) := wp_of c125_20.eq_1
@[go_sem] theorem c125_21_wp : type_of% (wp_of c125_21.eq_1) := wp_of c125_21.eq_1
@[go_sem] theorem c125_22_wp : type_of% (wp_of c125_22.eq_1) := wp_of c125_22.eq_1
@[go_sem] theorem c125_23_wp : type_of% (wp_of c125_23.eq_1) := wp_of c125_23.eq_1
@[go_sem] theorem c125_24_wp : type_of% (wp_of c125_24.eq_1) := wp_of c125_24.eq_1
@[go_sem] theorem c125_25_wp : type_of% (wp_of c125_25.eq_1) := wp_of c125_25.eq_1
@[go_sem] theorem c125_26_wp : type_of% (wp_of c125_26.eq_1) := wp_of c125_26.eq_1
@[go_sem] theorem c125_27_wp : type_of% (wp_of c125_27.eq_1) := wp_of c125_27.eq_1
@[go_sem] theorem c125_28_wp : type_of% (wp_of c125_28.eq_1) := wp_of c125_28.eq_1
@[go_sem] theorem c125_29_wp : type_of% (wp_of c125_29.eq_1) := wp_of c125_29.eq_1
def c125 : AFn := ⟨29, [.t 2, .t 3], c125_29⟩
set_option maxRecDepth 100000 in
theorem c125_ok : compF Tryz.prog Tryz.f125 = some c125 := by kernel_rfl
theorem a125 {args : List AV} {σ : ASt} {R : AV → ASt → Prop} (hl : args.length ≤ 29) (h : c125_29.wp Tryz.prog (RetQ [.t 2, .t 3] R) (init args) σ) : ACalls Tryz.prog 125 args σ R := acalls_of Tryz.func125 c125_ok hl h

end Go.A
