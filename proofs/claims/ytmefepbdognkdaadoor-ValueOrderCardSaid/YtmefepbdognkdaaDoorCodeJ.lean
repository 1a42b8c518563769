/- The functions, compiled: by program (wip/gencode.py). -/
import Derived.Test.YtmefepbdognkdaaDoorBk
import Derived.Test.YtmefepbdognkdaaDoorProg
import Derived.KernelRfl
namespace Go.A
open Go.Proofs

/-! 16: tabular/value.AsNumber -/
def c16_0 : ACode := .ops [
    ⟨(some 2), none, .q (.mv (.v (.int .i64 0))), []⟩,
    ⟨(some 3), none, .q (.mv (.v (.int .i64 0))), []⟩]
def c16_1 : ACode := .ops [
    ⟨(some 10), none, .q (.mv (.t 0)), []⟩]
def c16_2 : ACode := .ops [
    ⟨(some 11), none, .q (.ta 62 (.int .i64 0) true (.t 10)), []⟩,
    ⟨(some 12), none, .q (.ext 1 (.t 11)), []⟩,
    ⟨(some 13), none, .q (.ext 0 (.t 11)), []⟩]
def c16_3 : ACode := .ops [
    ⟨(some 4), none, .q (.mv (.t 13)), []⟩]
def c16_4 : ACode := .ops [
    ⟨(some 14), none, .q (.mv (.t 4)), []⟩,
    ⟨(some 2), none, .q (.mv (.t 14)), []⟩,
    ⟨(some 3), none, .q (.mv (.v (.int .i64 0))), []⟩]
def c16_5 : ACode := .seq c16_4 .ret
def c16_6 : ACode := .seq c16_3 c16_5
def c16_7 : ACode := .ops [
    ⟨(some 15), none, .q (.ta 66 (.bool false) true (.t 10)), []⟩,
    ⟨(some 16), none, .q (.ext 1 (.t 15)), []⟩,
    ⟨(some 17), none, .q (.ext 0 (.t 15)), []⟩]
def c16_8 : ACode := .ops [
    ⟨(some 5), none, .q (.mv (.t 17)), []⟩]
def c16_9 : ACode := .ops [
    ⟨(some 18), none, .q (.mv (.t 5)), []⟩]
def c16_10 : ACode := .ops [
    ⟨(some 2), none, .q (.mv (.v (.int .i64 10000))), []⟩,
    ⟨(some 3), none, .q (.mv (.v (.int .i64 0))), []⟩]
def c16_11 : ACode := .seq c16_10 .ret
def c16_12 : ACode := .cond (.t 18) c16_11 .skip
def c16_13 : ACode := .seq c16_9 c16_12
def c16_14 : ACode := .ops [
    ⟨(some 2), none, .q (.mv (.v (.int .i64 0))), []⟩,
    ⟨(some 3), none, .q (.mv (.v (.int .i64 0))), []⟩]
def c16_15 : ACode := .seq c16_14 .ret
def c16_16 : ACode := .seq c16_13 c16_15
def c16_17 : ACode := .seq c16_8 c16_16
def c16_18 : ACode := .ops [
    ⟨(some 19), none, .q (.ta 67 (.str []) true (.t 10)), []⟩,
    ⟨(some 20), none, .q (.ext 1 (.t 19)), []⟩,
    ⟨(some 21), none, .q (.ext 0 (.t 19)), []⟩]
def c16_19 : ACode := .ops [
    ⟨(some 6), none, .q (.mv (.t 21)), []⟩]
def c16_20 : ACode := .ops [
    ⟨(some 23), none, .q (.mv (.t 6)), []⟩,
    ⟨(some 24), none, .e (.call 30 [(.t 23)]), []⟩,
    ⟨(some 25), none, .e (.call 29 [(.t 24)]), []⟩,
    ⟨(some 22), none, .q (.mv (.t 25)), []⟩,
    ⟨(some 26), none, .q (.ext 0 (.t 22)), []⟩,
    ⟨(some 27), none, .q (.ext 1 (.t 22)), []⟩,
    ⟨(some 7), none, .q (.mv (.t 26)), []⟩,
    ⟨(some 8), none, .q (.mv (.t 27)), []⟩]
def c16_21 : ACode := .ops [
    ⟨(some 28), none, .q (.mv (.t 8)), []⟩]
def c16_22 : ACode := .ops [
    ⟨(some 29), none, .q (.mv (.t 7)), []⟩,
    ⟨(some 2), none, .q (.mv (.t 29)), []⟩,
    ⟨(some 3), none, .q (.mv (.v (.int .i64 0))), []⟩]
def c16_23 : ACode := .seq c16_22 .ret
def c16_24 : ACode := .cond (.t 28) c16_23 .skip
def c16_25 : ACode := .seq c16_21 c16_24
def c16_26 : ACode := .seq c16_20 c16_25
def c16_27 : ACode := .ops [
    ⟨(some 2), none, .q (.mv (.v (.int .i64 0))), []⟩,
    ⟨(some 3), none, .q (.mv (.v (.int .i64 3))), []⟩]
def c16_28 : ACode := .seq c16_27 .ret
def c16_29 : ACode := .seq c16_26 c16_28
def c16_30 : ACode := .seq c16_19 c16_29
def c16_31 : ACode := .ops [
    ⟨(some 30), none, .q (.ta 39 (.int .i64 0) true (.t 10)), []⟩,
    ⟨(some 31), none, .q (.ext 1 (.t 30)), []⟩,
    ⟨(some 32), none, .q (.ext 0 (.t 30)), []⟩]
def c16_32 : ACode := .ops [
    ⟨(some 9), none, .q (.mv (.t 32)), []⟩]
def c16_33 : ACode := .ops [
    ⟨(some 33), none, .q (.mv (.t 9)), []⟩,
    ⟨(some 2), none, .q (.mv (.v (.int .i64 0))), []⟩,
    ⟨(some 3), none, .q (.mv (.t 33)), []⟩]
def c16_34 : ACode := .seq c16_33 .ret
def c16_35 : ACode := .seq c16_32 c16_34
def c16_36 : ACode := .cond (.t 31) c16_35 .skip
def c16_37 : ACode := .seq c16_31 c16_36
def c16_38 : ACode := .cond (.t 20) c16_30 c16_37
def c16_39 : ACode := .seq c16_18 c16_38
def c16_40 : ACode := .cond (.t 16) c16_17 c16_39
def c16_41 : ACode := .seq c16_7 c16_40
def c16_42 : ACode := .cond (.t 12) c16_6 c16_41
def c16_43 : ACode := .seq c16_2 c16_42
def c16_44 : ACode := .block 0 c16_43
def c16_45 : ACode := .seq c16_1 c16_44
def c16_46 : ACode := .ops [
    ⟨(some 2), none, .q (.mv (.v (.int .i64 0))), []⟩,
    ⟨(some 3), none, .q (.mv (.v (.int .i64 0))), []⟩]
def c16_47 : ACode := .seq c16_46 .ret
def c16_48 : ACode := .seq c16_45 c16_47
def c16_49 : ACode := .seq c16_0 c16_48
@[go_sem] theorem c16_0_wp : type_of% (wp_of c16_0.eq_1) := wp_of c16_0.eq_1
@[go_sem] theorem c16_1_wp : type_of% (wp_of c16_1.eq_1) := wp_of c16_1.eq_1
@[go_sem] theorem c16_2_wp : type_of% (wp_of c16_2.eq_1) := wp_of c16_2.eq_1
@[go_sem] theorem c16_3_wp : type_of% (wp_of c16_3.eq_1) := wp_of c16_3.eq_1
@[go_sem] theorem c16_4_wp : type_of% (wp_of c16_4.eq_1) := wp_of c16_4.eq_1
@[go_sem] theorem c16_5_wp : type_of% (wp_of c16_5.eq_1) := wp_of c16_5.eq_1
@[go_sem] theorem c16_6_wp : type_of% (wp_of c16_6.eq_1) := wp_of c16_6.eq_1
@[go_sem] theorem c16_7_wp : type_of% (wp_of c16_7.eq_1) := wp_of c16_7.eq_1
@[go_sem] theorem c16_8_wp : type_of% (wp_of c16_8.eq_1) := wp_of c16_8.eq_1
@[go_sem] theorem c16_9_wp : type_of% (wp_of c16_9.eq_1) := wp_of c16_9.eq_1
@[go_sem] theorem c16_10_wp : type_of% (wp_of c16_10.eq_1) := wp_of c16_10.eq_1
@[go_sem] theorem c16_11_wp : type_of% (wp_of c16_11.eq_1) := wp_of c16_11.eq_1
@[go_sem] theorem c16_12_wp : type_of% (wp_of c16_12.eq_1) := wp_of c16_12.eq_1
@[go_sem] theorem c16_13_wp : type_of% (wp_of c16_13.eq_1) := wp_of c16_13.eq_1
@[go_sem] theorem c16_14_wp : type_of% (wp_of c16_14.eq_1) := wp_of c16_14.eq_1
@[go_sem] theorem c16_15_wp : type_of% (wp_of c16_15.eq_1) := wp_of c16_15.eq_1
@[go_sem] theorem c16_16_wp : type_of% (wp_of c16_16.eq_1) := wp_of c16_16.eq_1
@[go_sem] theorem c16_17_wp : type_of% (wp_of c16_17.eq_1) := wp_of c16_17.eq_1
@[go_sem] theorem c16_18_wp : type_of% (wp_of c16_18.eq_1) := wp_of c16_18.eq_1
@[go_sem] theorem c16_19_wp : type_of% (wp_of c16_19.eq_1) := wp_of c16_19.eq_1
@[go_sem] theorem c16_20_wp : type_of% (wp_of c16_20.eq_1) := wp_of c16_20.eq_1
@[go_sem] theorem c16_21_wp : type_of% (wp_of c16_21.eq_1) := wp_of c16_21.eq_1
@[go_sem] theorem c16_22_wp : type_of% (wp_of c16_22.eq_1) := wp_of c16_22.eq_1
@[go_sem] theorem c16_23_wp : type_of% (wp_of c16_23.eq_1) := wp_of c16_23.eq_1
@[go_sem] theorem c16_24_wp : type_of% (wp_of c16_24.eq_1) := wp_of c16_24.eq_1
@[go_sem] theorem c16_25_wp : type_of% (wp_of c16_25.eq_1) := wp_of c16_25.eq_1
@[go_sem] theorem c16_26_wp : type_of% (wp_of c16_26.eq_1) := wp_of c16_26.eq_1
@[go_sem] theorem c16_27_wp : type_of% (wp_of c16_27.eq_1) := wp_of c16_27.eq_1
@[go_sem] theorem c16_28_wp : type_of% (wp_of c16_28.eq_1) := wp_of c16_28.eq_1
@[go_sem] theorem c16_29_wp : type_of% (wp_of c16_29.eq_1) := wp_of c16_29.eq_1
@[go_sem] theorem c16_30_wp : type_of% (wp_of c16_30.eq_1) := wp_of c16_30.eq_1
@[go_sem] theorem c16_31_wp : type_of% (wp_of c16_31.eq_1) := wp_of c16_31.eq_1
@[go_sem] theorem c16_32_wp : type_of% (wp_of c16_32.eq_1) := wp_of c16_32.eq_1
@[go_sem] theorem c16_33_wp : type_of% (wp_of c16_33.eq_1) := wp_of c16_33.eq_1
@[go_sem] theorem c16_34_wp : type_of% (wp_of c16_34.eq_1) := wp_of c16_34.eq_1
@[go_sem] theorem c16_35_wp : type_of% (wp_of c16_35.eq_1) := wp_of c16_35.eq_1
@[go_sem] theorem c16_36_wp : type_of% (wp_of c16_36.eq_1) := wp_of c16_36.eq_1
@[go_sem] theorem c16_37_wp : type_of% (wp_of c16_37.eq_1) := wp_of c16_37.eq_1
@[go_sem] theorem c16_38_wp : type_of% (wp_of c16_38.eq_1) := wp_of c16_38.eq_1
@[go_sem] theorem c16_39_wp : type_of% (wp_of c16_39.eq_1) := wp_of c16_39.eq_1
@[go_sem] theorem c16_40_wp : type_of% (wp_of c16_40.eq_1) := wp_of c16_40.eq_1
@[go_sem] theorem c16_41_wp : type_of% (wp_of c16_41.eq_1) := wp_of c16_41.eq_1
@[go_sem] theorem c16_42_wp : type_of% (wp_of c16_42.eq_1) := wp_of c16_42.eq_1
@[go_sem] theorem c16_43_wp : type_of% (wp_of c16_43.eq_1) := wp_of c16_43.eq_1
@[go_sem] theorem c16_44_wp : type_of% (wp_of c16_44.eq_1) := wp_of c16_44.eq_1
@[go_sem] theorem c16_45_wp : type_of% (wp_of c16_45.eq_1) := wp_of c16_45.eq_1
@[go_sem] theorem c16_46_wp : type_of% (wp_of c16_46.eq_1) := wp_of c16_46.eq_1
@[go_sem] theorem c16_47_wp : type_of% (wp_of c16_47.eq_1) := wp_of c16_47.eq_1
@[go_sem] theorem c16_48_wp : type_of% (wp_of c16_48.eq_1) := wp_of c16_48.eq_1
@[go_sem] theorem c16_49_wp : type_of% (wp_of c16_49.eq_1) := wp_of c16_49.eq_1
def c16 : AFn := ⟨34, [.t 2, .t 3], c16_49⟩
set_option maxRecDepth 100000 in
theorem c16_ok : compF Tryd.prog Tryd.f16 = some c16 := by kernel_rfl
theorem a16 {args : List AV} {σ : ASt} {R : AV → ASt → Prop} (hl : args.length ≤ 34) (h : c16_49.wp Tryd.prog (RetQ [.t 2, .t 3] R) (init args) σ) : ACalls Tryd.prog 16 args σ R := acalls_of Tryd.func16 c16_ok hl h

/-! 17: (tabular/value.Arg).Value -/
def c17_0 : ACode := .ops [
    ⟨(some 1), none, .e (.box (.t 0)), []⟩,
    ⟨(some 2), none, .q (.mv (.v .nili)), []⟩]
def c17_1 : ACode := .ops [
    ⟨(some 3), none, .q (.fa 3 (.t 1)), []⟩,
    ⟨(some 4), none, .q (.ld none (.t 3)), []⟩,
    ⟨(some 5), none, .q (.len (.t 4)), []⟩,
    ⟨(some 6), none, .q (.bin .neq (.t 5) (.v (.int .i64 1))), []⟩]
def c17_2 : ACode := .ops [
    ⟨(some 7), none, .q (.mki 39 (.v (.int .i64 3))), []⟩,
    ⟨(some 2), none, .q (.mv (.t 7)), []⟩]
def c17_3 : ACode := .seq c17_2 .ret
def c17_4 : ACode := .cond (.t 6) c17_3 .skip
def c17_5 : ACode := .seq c17_1 c17_4
def c17_6 : ACode := .ops [
    ⟨(some 8), none, .q (.fa 3 (.t 1)), []⟩,
    ⟨(some 9), none, .q (.ld none (.t 8)), []⟩,
    ⟨(some 10), none, .q (.ia 1 (.t 9) (.v (.int .i64 0))), []⟩,
    ⟨(some 11), none, .q (.ld none (.t 10)), []⟩,
    ⟨(some 2), none, .q (.mv (.t 11)), []⟩]
def c17_7 : ACode := .seq c17_6 .ret
def c17_8 : ACode := .seq c17_5 c17_7
def c17_9 : ACode := .seq c17_0 c17_8
@[go_sem] theorem c17_0_wp : type_of% (wp_of c17_0.eq_1) := wp_of c17_0.eq_1
@[go_sem] theorem c17_1_wp : type_of% (wp_of c17_1.eq_1) := wp_of c17_1.eq_1
@[go_sem] theorem c17_2_wp : type_of% (wp_of c17_2.eq_1) := wp_of c17_2.eq_1
@[go_sem] theorem c17_3_wp : type_of% (wp_of c17_3.eq_1) := wp_of c17_3.eq_1
@[go_sem] theorem c17_4_wp : type_of% (wp_of c17_4.eq_1) := wp_of c17_4.eq_1
@[go_sem] theorem c17_5_wp : type_of% (wp_of c17_5.eq_1) := wp_of c17_5.eq_1
@[go_sem] theorem c17_6_wp : type_of% (wp_of c17_6.eq_1) := wp_of c17_6.eq_1
@[go_sem] theorem c17_7_wp : type_of% (wp_of c17_7.eq_1) := wp_of c17_7.eq_1
@[go_sem] theorem c17_8_wp : type_of% (wp_of c17_8.eq_1) := wp_of c17_8.eq_1
@[go_sem] theorem c17_9_wp : type_of% (wp_of c17_9.eq_1) := wp_of c17_9.eq_1
def c17 : AFn := ⟨12, [.t 2], c17_9⟩
set_option maxRecDepth 100000 in
theorem c17_ok : compF Tryd.prog Tryd.f17 = some c17 := by kernel_rfl
theorem a17 {args : List AV} {σ : ASt} {R : AV → ASt → Prop} (hl : args.length ≤ 12) (h : c17_9.wp Tryd.prog (RetQ [.t 2] R) (init args) σ) : ACalls Tryd.prog 17 args σ R := acalls_of Tryd.func17 c17_ok hl h

/-! 18: tabular/value.One -/
def c18_0 : ACode := .ops [
    ⟨(some 2), none, .e (.alloc [(.int .i64 0), (.int .i64 0), (.bool false), (.sl .full [])]), []⟩]
def c18_1 : ACode := .ops [
    ⟨(some 3), none, .q (.mv (.t 0)), []⟩,
    ⟨(some 4), none, .q (.bsl 1 [(.t 3)]), []⟩,
    ⟨(some 5), none, .q (.build [(.int .i64 0), (.int .i64 0), (.bool false), (.sl .full [])] [(0, 1, (.v (.int .i64 1))), (1, 1, (.v (.int .i64 1))), (3, 1, (.t 4))]), []⟩,
    ⟨none, none, .e (.store 4 (.t 2) (.t 5)), []⟩]
def c18_2 : ACode := .seq c18_1 .ret
def c18_3 : ACode := .seq c18_0 c18_2
@[go_sem] theorem c18_0_wp : type_of% (wp_of c18_0.eq_1) := wp_of c18_0.eq_1
@[go_sem] theorem c18_1_wp : type_of% (wp_of c18_1.eq_1) := wp_of c18_1.eq_1
@[go_sem] theorem c18_2_wp : type_of% (wp_of c18_2.eq_1) := wp_of c18_2.eq_1
@[go_sem] theorem c18_3_wp : type_of% (wp_of c18_3.eq_1) := wp_of c18_3.eq_1
def c18 : AFn := ⟨6, [.c 2 (some 4)], c18_3⟩
set_option maxRecDepth 100000 in
theorem c18_ok : compF Tryd.prog Tryd.f18 = some c18 := by kernel_rfl
theorem a18 {args : List AV} {σ : ASt} {R : AV → ASt → Prop} (hl : args.length ≤ 6) (h : c18_3.wp Tryd.prog (RetQ [.c 2 (some 4)] R) (init args) σ) : ACalls Tryd.prog 18 args σ R := acalls_of Tryd.func18 c18_ok hl h

/-! 19: tabular/value.Failed -/
def c19_0 : ACode := .ops [
    ⟨(some 2), none, .q (.mv (.v (.int .i64 0))), []⟩,
    ⟨(some 3), none, .q (.mv (.v (.bool false))), []⟩]
def c19_1 : ACode := .ops [
    ⟨(some 7), none, .q (.mv (.t 0)), []⟩,
    ⟨(some 8), none, .q (.ta 39 (.int .i64 0) true (.t 7)), []⟩,
    ⟨(some 6), none, .q (.mv (.t 8)), []⟩,
    ⟨(some 9), none, .q (.ext 0 (.t 6)), []⟩,
    ⟨(some 10), none, .q (.ext 1 (.t 6)), []⟩,
    ⟨(some 4), none, .q (.mv (.t 9)), []⟩,
    ⟨(some 5), none, .q (.mv (.t 10)), []⟩]
def c19_2 : ACode := .ops [
    ⟨(some 11), none, .q (.mv (.t 4)), []⟩,
    ⟨(some 12), none, .q (.mv (.t 5)), []⟩,
    ⟨(some 2), none, .q (.mv (.t 11)), []⟩,
    ⟨(some 3), none, .q (.mv (.t 12)), []⟩]
def c19_3 : ACode := .seq c19_2 .ret
def c19_4 : ACode := .seq c19_1 c19_3
def c19_5 : ACode := .seq c19_0 c19_4
@[go_sem] theorem c19_0_wp : type_of% (wp_of c19_0.eq_1) := wp_of c19_0.eq_1
@[go_sem] theorem c19_1_wp : type_of% (wp_of c19_1.eq_1) := wp_of c19_1.eq_1
@[go_sem] theorem c19_2_wp : type_of% (wp_of c19_2.eq_1) := wp_of c19_2.eq_1
@[go_sem] theorem c19_3_wp : type_of% (wp_of c19_3.eq_1) := wp_of c19_3.eq_1
@[go_sem] theorem c19_4_wp : type_of% (wp_of c19_4.eq_1) := wp_of c19_4.eq_1
@[go_sem] theorem c19_5_wp : type_of% (wp_of c19_5.eq_1) := wp_of c19_5.eq_1
def c19 : AFn := ⟨13, [.t 2, .t 3], c19_5⟩
set_option maxRecDepth 100000 in
theorem c19_ok : compF Tryd.prog Tryd.f19 = some c19 := by kernel_rfl
theorem a19 {args : List AV} {σ : ASt} {R : AV → ASt → Prop} (hl : args.length ≤ 13) (h : c19_5.wp Tryd.prog (RetQ [.t 2, .t 3] R) (init args) σ) : ACalls Tryd.prog 19 args σ R := acalls_of Tryd.func19 c19_ok hl h

/-! 21: tabular/maths.Has -/
def c21_0 : ACode := .ops [
    ⟨(some 2), none, .q (.mv (.v (.bool false))), []⟩]
def c21_1 : ACode := .ops [
    ⟨(some 6), none, .q (.mv (.t 0)), []⟩,
    ⟨(some 7), none, .e (.call 31 [(.t 6)]), []⟩,
    ⟨(some 5), none, .q (.mv (.t 7)), []⟩,
    ⟨(some 8), none, .q (.ext 0 (.t 5)), []⟩,
    ⟨(some 9), none, .q (.ext 1 (.t 5)), []⟩,
    ⟨(some 3), none, .q (.mv (.t 8)), []⟩,
    ⟨(some 4), none, .q (.mv (.t 9)), []⟩]
def c21_2 : ACode := .ops [
    ⟨(some 10), none, .q (.mv (.t 4)), []⟩,
    ⟨(some 11), none, .q (.bin .gtr (.t 10) (.v (.int .i64 0))), []⟩,
    ⟨(some 2), none, .q (.mv (.t 11)), []⟩]
def c21_3 : ACode := .seq c21_2 .ret
def c21_4 : ACode := .seq c21_1 c21_3
def c21_5 : ACode := .seq c21_0 c21_4
@[go_sem] theorem c21_0_wp : type_of% (wp_of c21_0.eq_1) := wp_of c21_0.eq_1
@[go_sem] theorem c21_1_wp : type_of% (wp_of c21_1.eq_1) := wp_of c21_1.eq_1
@[go_sem] theorem c21_2_wp : type_of% (wp_of c21_2.eq_1) := wp_of c21_2.eq_1
@[go_sem] theorem c21_3_wp : type_of% (wp_of c21_3.eq_1) := wp_of c21_3.eq_1
@[go_sem] theorem c21_4_wp : type_of% (wp_of c21_4.eq_1) := wp_of c21_4.eq_1
@[go_sem] theorem c21_5_wp : type_of% (wp_of c21_5.eq_1) := wp_of c21_5.eq_1
def c21 : AFn := ⟨12, [.t 2], c21_5⟩
set_option maxRecDepth 100000 in
theorem c21_ok : compF Tryd.prog Tryd.f21 = some c21 := by kernel_rfl
theorem a21 {args : List AV} {σ : ASt} {R : AV → ASt → Prop} (hl : args.length ≤ 12) (h : c21_5.wp Tryd.prog (RetQ [.t 2] R) (init args) σ) : ACalls Tryd.prog 21 args σ R := acalls_of Tryd.func21 c21_ok hl h

/-! 25: tabular/value.Tell -/
def c25_0 : ACode := .ops [
    ⟨(some 2), none, .e (.alloc [(.int .i64 0), (.int .i64 0), (.str [])]), []⟩]
def c25_1 : ACode := .ops [
    ⟨(some 7), none, .q (.mv (.t 0)), []⟩]
def c25_2 : ACode := .ops [
    ⟨(some 8), none, .q (.ta 62 (.int .i64 0) true (.t 7)), []⟩,
    ⟨(some 9), none, .q (.ext 1 (.t 8)), []⟩,
    ⟨(some 10), none, .q (.ext 0 (.t 8)), []⟩]
def c25_3 : ACode := .ops [
    ⟨(some 3), none, .q (.mv (.t 10)), []⟩]
def c25_4 : ACode := .ops [
    ⟨(some 11), none, .q (.mv (.t 3)), []⟩,
    ⟨(some 12), none, .q (.build [(.int .i64 0), (.int .i64 0), (.str [])] [(0, 1, (.v (.int .i64 1))), (1, 1, (.t 11))]), []⟩,
    ⟨none, none, .e (.store 3 (.t 2) (.t 12)), []⟩]
def c25_5 : ACode := .seq c25_4 .ret
def c25_6 : ACode := .seq c25_3 c25_5
def c25_7 : ACode := .ops [
    ⟨(some 13), none, .q (.ta 67 (.str []) true (.t 7)), []⟩,
    ⟨(some 14), none, .q (.ext 1 (.t 13)), []⟩,
    ⟨(some 15), none, .q (.ext 0 (.t 13)), []⟩]
def c25_8 : ACode := .ops [
    ⟨(some 4), none, .q (.mv (.t 15)), []⟩]
def c25_9 : ACode := .ops [
    ⟨(some 16), none, .q (.mv (.t 4)), []⟩,
    ⟨(some 17), none, .q (.build [(.int .i64 0), (.int .i64 0), (.str [])] [(0, 1, (.v (.int .i64 2))), (2, 1, (.t 16))]), []⟩,
    ⟨none, none, .e (.store 3 (.t 2) (.t 17)), []⟩]
def c25_10 : ACode := .seq c25_9 .ret
def c25_11 : ACode := .seq c25_8 c25_10
def c25_12 : ACode := .ops [
    ⟨(some 18), none, .q (.ta 66 (.bool false) true (.t 7)), []⟩,
    ⟨(some 19), none, .q (.ext 1 (.t 18)), []⟩,
    ⟨(some 20), none, .q (.ext 0 (.t 18)), []⟩]
def c25_13 : ACode := .ops [
    ⟨(some 5), none, .q (.mv (.t 20)), []⟩]
def c25_14 : ACode := .ops [
    ⟨(some 21), none, .q (.mv (.t 5)), []⟩]
def c25_15 : ACode := .ops [
    ⟨(some 22), none, .q (.build [(.int .i64 0), (.int .i64 0), (.str [])] [(0, 1, (.v (.int .i64 3))), (1, 1, (.v (.int .i64 1)))]), []⟩,
    ⟨none, none, .e (.store 3 (.t 2) (.t 22)), []⟩]
def c25_16 : ACode := .seq c25_15 .ret
def c25_17 : ACode := .cond (.t 21) c25_16 .skip
def c25_18 : ACode := .seq c25_14 c25_17
def c25_19 : ACode := .ops [
    ⟨(some 23), none, .q (.build [(.int .i64 0), (.int .i64 0), (.str [])] [(0, 1, (.v (.int .i64 3)))]), []⟩,
    ⟨none, none, .e (.store 3 (.t 2) (.t 23)), []⟩]
def c25_20 : ACode := .seq c25_19 .ret
def c25_21 : ACode := .seq c25_18 c25_20
def c25_22 : ACode := .seq c25_13 c25_21
def c25_23 : ACode := .ops [
    ⟨(some 24), none, .q (.ta 39 (.int .i64 0) true (.t 7)), []⟩,
    ⟨(some 25), none, .q (.ext 1 (.t 24)), []⟩,
    ⟨(some 26), none, .q (.ext 0 (.t 24)), []⟩]
def c25_24 : ACode := .ops [
    ⟨(some 6), none, .q (.mv (.t 26)), []⟩]
def c25_25 : ACode := .ops [
    ⟨(some 27), none, .q (.mv (.t 6)), []⟩,
    ⟨(some 28), none, .q (.build [(.int .i64 0), (.int .i64 0), (.str [])] [(0, 1, (.v (.int .i64 4))), (1, 1, (.t 27))]), []⟩,
    ⟨none, none, .e (.store 3 (.t 2) (.t 28)), []⟩]
def c25_26 : ACode := .seq c25_25 .ret
def c25_27 : ACode := .seq c25_24 c25_26
def c25_28 : ACode := .cond (.t 25) c25_27 .skip
def c25_29 : ACode := .seq c25_23 c25_28
def c25_30 : ACode := .cond (.t 19) c25_22 c25_29
def c25_31 : ACode := .seq c25_12 c25_30
def c25_32 : ACode := .cond (.t 14) c25_11 c25_31
def c25_33 : ACode := .seq c25_7 c25_32
def c25_34 : ACode := .cond (.t 9) c25_6 c25_33
def c25_35 : ACode := .seq c25_2 c25_34
def c25_36 : ACode := .block 0 c25_35
def c25_37 : ACode := .seq c25_1 c25_36
def c25_38 : ACode := .ops [
    ⟨(some 29), none, .q (.build [(.int .i64 0), (.int .i64 0), (.str [])] []), []⟩,
    ⟨none, none, .e (.store 3 (.t 2) (.t 29)), []⟩]
def c25_39 : ACode := .seq c25_38 .ret
def c25_40 : ACode := .seq c25_37 c25_39
def c25_41 : ACode := .seq c25_0 c25_40
@[go_sem] theorem c25_0_wp : type_of% (wp_of c25_0.eq_1) := wp_of c25_0.eq_1
@[go_sem] theorem c25_1_wp : type_of% (wp_of c25_1.eq_1) := wp_of c25_1.eq_1
@[go_sem] theorem c25_2_wp : type_of% (wp_of c25_2.eq_1) := wp_of c25_2.eq_1
@[go_sem] theorem c25_3_wp : type_of% (wp_of c25_3.eq_1) := wp_of c25_3.eq_1
@[go_sem] theorem c25_4_wp : type_of% (wp_of c25_4.eq_1) := wp_of c25_4.eq_1
@[go_sem] theorem c25_5_wp : type_of% (wp_of c25_5.eq_1) := wp_of c25_5.eq_1
@[go_sem] theorem c25_6_wp : type_of% (wp_of c25_6.eq_1) := wp_of c25_6.eq_1
@[go_sem] theorem c25_7_wp : type_of% (wp_of c25_7.eq_1) := wp_of c25_7.eq_1
@[go_sem] theorem c25_8_wp : type_of% (wp_of c25_8.eq_1) := wp_of c25_8.eq_1
@[go_sem] theorem c25_9_wp : type_of% (wp_of c25_9.eq_1) := wp_of c25_9.eq_1
@[go_sem] theorem c25_10_wp : type_of% (wp_of c25_10.eq_1) := wp_of c25_10.eq_1
@[go_sem] theorem c25_11_wp : type_of% (wp_of c25_11.eq_1) := wp_of c25_11.eq_1
@[go_sem] theorem c25_12_wp : type_of% (wp_of c25_12.eq_1) := wp_of c25_12.eq_1
@[go_sem] theorem c25_13_wp : type_of% (wp_of c25_13.eq_1) := wp_of c25_13.eq_1
@[go_sem] theorem c25_14_wp : type_of% (wp_of c25_14.eq_1) := wp_of c25_14.eq_1
@[go_sem] theorem c25_15_wp : type_of% (wp_of c25_15.eq_1) := wp_of c25_15.eq_1
@[go_sem] theorem c25_16_wp : type_of% (wp_of c25_16.eq_1) := wp_of c25_16.eq_1
@[go_sem] theorem c25_17_wp : type_of% (wp_of c25_17.eq_1) := wp_of c25_17.eq_1
@[go_sem] theorem c25_18_wp : type_of% (wp_of c25_18.eq_1) := wp_of c25_18.eq_1
@[go_sem] theorem c25_19_wp : type_of% (wp_of c25_19.eq_1) := wp_of c25_19.eq_1
@[go_sem] theorem c25_20_wp : type_of% (wp_of c25_20.eq_1) := wp_of c25_20.eq_1
@[go_sem] theorem c25_21_wp : type_of% (wp_of c25_21.eq_1) := wp_of c25_21.eq_1
@[go_sem] theorem c25_22_wp : type_of% (wp_of c25_22.eq_1) := wp_of c25_22.eq_1
@[go_sem] theorem c25_23_wp : type_of% (wp_of c25_23.eq_1) := wp_of c25_23.eq_1
@[go_sem] theorem c25_24_wp : type_of% (wp_of c25_24.eq_1) := wp_of c25_24.eq_1
@[go_sem] theorem c25_25_wp : type_of% (wp_of c25_25.eq_1) := wp_of c25_25.eq_1
@[go_sem] theorem c25_26_wp : type_of% (wp_of c25_26.eq_1) := wp_of c25_26.eq_1
@[go_sem] theorem c25_27_wp : type_of% (wp_of c25_27.eq_1) := wp_of c25_27.eq_1
@[go_sem] theorem c25_28_wp : type_of% (wp_of c25_28.eq_1) := wp_of c25_28.eq_1
@[go_sem] theorem c25_29_wp : type_of% (wp_of c25_29.eq_1) := wp_of c25_29.eq_1
@[go_sem] theorem c25_30_wp : type_of% (wp_of c25_30.eq_1) := wp_of c25_30.eq_1
@[go_sem] theorem c25_31_wp : type_of% (wp_of c25_31.eq_1) := wp_of c25_31.eq_1
@[go_sem] theorem c25_32_wp : type_of% (wp_of c25_32.eq_1) := wp_of c25_32.eq_1
@[go_sem] theorem c25_33_wp : type_of% (wp_of c25_33.eq_1) := wp_of c25_33.eq_1
@[go_sem] theorem c25_34_wp : type_of% (wp_of c25_34.eq_1) := wp_of c25_34.eq_1
@[go_sem] theorem c25_35_wp : type_of% (wp_of c25_35.eq_1) := wp_of c25_35.eq_1
@[go_sem] theorem c25_36_wp : type_of% (wp_of c25_36.eq_1) := wp_of c25_36.eq_1
@[go_sem] theorem c25_37_wp : type_of% (wp_of c25_37.eq_1) := wp_of c25_37.eq_1
@[go_sem] theorem c25_38_wp : type_of% (wp_of c25_38.eq_1) := wp_of c25_38.eq_1
@[go_sem] theorem c25_39_wp : type_of% (wp_of c25_39.eq_1) := wp_of c25_39.eq_1
@[go_sem] theorem c25_40_wp : type_of% (wp_of c25_40.eq_1) := wp_of c25_40.eq_1
@[go_sem] theorem c25_41_wp : type_of% (wp_of c25_41.eq_1) := wp_of c25_41.eq_1
def c25 : AFn := ⟨30, [.c 2 (some 3)], c25_41⟩
set_option maxRecDepth 100000 in
theorem c25_ok : compF Tryd.prog Tryd.f25 = some c25 := by kernel_rfl
theorem a25 {args : List AV} {σ : ASt} {R : AV → ASt → Prop} (hl : args.length ≤ 30) (h : c25_41.wp Tryd.prog (RetQ [.c 2 (some 3)] R) (init args) σ) : ACalls Tryd.prog 25 args σ R := acalls_of Tryd.func25 c25_ok hl h

/-! 26: tabular/value.Given -/
def c26_0 : ACode := .ops [
    ⟨(some 2), none, .q (.mv (.v (.int .i64 0))), []⟩,
    ⟨(some 3), none, .q (.mv (.v (.bool false))), []⟩]
def c26_1 : ACode := .ops [
    ⟨(some 7), none, .q (.mv (.t 0)), []⟩,
    ⟨(some 8), none, .q (.ta 62 (.int .i64 0) true (.t 7)), []⟩,
    ⟨(some 6), none, .q (.mv (.t 8)), []⟩,
    ⟨(some 9), none, .q (.ext 0 (.t 6)), []⟩,
    ⟨(some 10), none, .q (.ext 1 (.t 6)), []⟩,
    ⟨(some 4), none, .q (.mv (.t 9)), []⟩,
    ⟨(some 5), none, .q (.mv (.t 10)), []⟩]
def c26_2 : ACode := .ops [
    ⟨(some 11), none, .q (.mv (.t 4)), []⟩,
    ⟨(some 12), none, .q (.mv (.t 5)), []⟩,
    ⟨(some 2), none, .q (.mv (.t 11)), []⟩,
    ⟨(some 3), none, .q (.mv (.t 12)), []⟩]
def c26_3 : ACode := .seq c26_2 .ret
def c26_4 : ACode := .seq c26_1 c26_3
def c26_5 : ACode := .seq c26_0 c26_4
@[go_sem] theorem c26_0_wp : type_of% (wp_of c26_0.eq_1) := wp_of c26_0.eq_1
@[go_sem] theorem c26_1_wp : type_of% (wp_of c26_1.eq_1) := wp_of c26_1.eq_1
@[go_sem] theorem c26_2_wp : type_of% (wp_of c26_2.eq_1) := wp_of c26_2.eq_1
@[go_sem] theorem c26_3_wp : type_of% (wp_of c26_3.eq_1) := wp_of c26_3.eq_1
@[go_sem] theorem c26_4_wp : type_of% (wp_of c26_4.eq_1) := wp_of c26_4.eq_1
@[go_sem] theorem c26_5_wp : type_of% (wp_of c26_5.eq_1) := wp_of c26_5.eq_1
def c26 : AFn := ⟨13, [.t 2, .t 3], c26_5⟩
set_option maxRecDepth 100000 in
theorem c26_ok : compF Tryd.prog Tryd.f26 = some c26 := by kernel_rfl
theorem a26 {args : List AV} {σ : ASt} {R : AV → ASt → Prop} (hl : args.length ≤ 13) (h : c26_5.wp Tryd.prog (RetQ [.t 2, .t 3] R) (init args) σ) : ACalls Tryd.prog 26 args σ R := acalls_of Tryd.func26 c26_ok hl h

/-! 28: tabular/value.Of -/
def c28_0 : ACode := .ops [
    ⟨(some 1), none, .e (.box (.t 0)), []⟩,
    ⟨(some 2), none, .q (.mv (.v .nili)), []⟩]
def c28_1 : ACode := .ops [
    ⟨(some 5), none, .q (.fa 0 (.t 1)), []⟩,
    ⟨(some 6), none, .q (.ld none (.t 5)), []⟩]
def c28_2 : ACode := .ops [
    ⟨(some 8), none, .q (.bin .eql (.t 6) (.v (.int .i64 1))), []⟩,
    ⟨(some 7), none, .q (.mv (.t 8)), []⟩]
def c28_3 : ACode := .ops [
    ⟨(some 9), none, .q (.fa 1 (.t 1)), []⟩,
    ⟨(some 10), none, .q (.ld none (.t 9)), []⟩,
    ⟨(some 11), none, .e (.call 8 [(.t 10)]), []⟩]
def c28_4 : ACode := .ops [
    ⟨(some 12), none, .q (.fa 1 (.t 1)), []⟩,
    ⟨(some 13), none, .q (.ld none (.t 12)), []⟩,
    ⟨(some 14), none, .q (.mki 62 (.t 13)), []⟩,
    ⟨(some 2), none, .q (.mv (.t 14)), []⟩]
def c28_5 : ACode := .seq c28_4 .ret
def c28_6 : ACode := .cond (.t 11) c28_5 .skip
def c28_7 : ACode := .seq c28_3 c28_6
def c28_8 : ACode := .ops [
    ⟨(some 16), none, .q (.bin .eql (.t 6) (.v (.int .i64 2))), []⟩,
    ⟨(some 15), none, .q (.mv (.t 16)), []⟩]
def c28_9 : ACode := .ops [
    ⟨(some 18), none, .q (.fa 2 (.t 1)), []⟩,
    ⟨(some 19), none, .q (.ld none (.t 18)), []⟩,
    ⟨(some 20), none, .e (.call 59 [(.t 19)]), []⟩,
    ⟨(some 17), none, .q (.mv (.t 20)), []⟩,
    ⟨(some 21), none, .q (.ext 0 (.t 17)), []⟩,
    ⟨(some 22), none, .q (.ext 1 (.t 17)), []⟩,
    ⟨(some 3), none, .q (.mv (.t 21)), []⟩,
    ⟨(some 4), none, .q (.mv (.t 22)), []⟩]
def c28_10 : ACode := .ops [
    ⟨(some 23), none, .q (.mv (.t 4)), []⟩,
    ⟨(some 24), none, .q (.mv (.t 23)), []⟩,
    ⟨(some 25), (some (24, true)), .q (.fa 2 (.t 1)), []⟩,
    ⟨(some 26), (some (24, true)), .q (.ld none (.t 25)), []⟩,
    ⟨(some 27), (some (24, true)), .q (.lenS (.t 26)), []⟩,
    ⟨(some 28), (some (24, true)), .q (.bin .leq (.t 27) (.v (.int .i64 2000))), []⟩,
    ⟨(some 29), none, .q (.pick (.t 24) (.t 28) (.v (.bool false))), []⟩]
def c28_11 : ACode := .ops [
    ⟨(some 30), none, .q (.fa 2 (.t 1)), []⟩,
    ⟨(some 31), none, .q (.ld none (.t 30)), []⟩,
    ⟨(some 32), none, .q (.mki 67 (.t 31)), []⟩,
    ⟨(some 2), none, .q (.mv (.t 32)), []⟩]
def c28_12 : ACode := .seq c28_11 .ret
def c28_13 : ACode := .cond (.t 29) c28_12 .skip
def c28_14 : ACode := .seq c28_10 c28_13
def c28_15 : ACode := .seq c28_9 c28_14
def c28_16 : ACode := .ops [
    ⟨(some 34), none, .q (.bin .eql (.t 6) (.v (.int .i64 3))), []⟩,
    ⟨(some 33), none, .q (.mv (.t 34)), []⟩]
def c28_17 : ACode := .ops [
    ⟨(some 35), none, .q (.fa 1 (.t 1)), []⟩,
    ⟨(some 36), none, .q (.ld none (.t 35)), []⟩,
    ⟨(some 37), none, .q (.bin .eql (.t 36) (.v (.int .i64 1))), []⟩,
    ⟨(some 38), none, .q (.mki 66 (.t 37)), []⟩,
    ⟨(some 2), none, .q (.mv (.t 38)), []⟩]
def c28_18 : ACode := .seq c28_17 .ret
def c28_19 : ACode := .ops [
    ⟨(some 40), none, .q (.bin .eql (.t 6) (.v (.int .i64 4))), []⟩,
    ⟨(some 39), none, .q (.mv (.t 40)), []⟩]
def c28_20 : ACode := .ops [
    ⟨(some 41), none, .q (.fa 1 (.t 1)), []⟩,
    ⟨(some 42), none, .q (.ld none (.t 41)), []⟩,
    ⟨(some 43), none, .q (.bin .geq (.t 42) (.v (.int .i64 1))), []⟩,
    ⟨(some 44), none, .q (.mv (.t 43)), []⟩,
    ⟨(some 45), (some (44, true)), .q (.fa 1 (.t 1)), []⟩,
    ⟨(some 46), (some (44, true)), .q (.ld none (.t 45)), []⟩,
    ⟨(some 47), (some (44, true)), .e (.call 60 []), [⟨(some (44, true)), .ld none (.t 45), 46⟩]⟩,
    ⟨(some 48), (some (44, true)), .q (.len (.t 47)), []⟩,
    ⟨(some 49), (some (44, true)), .q (.bin .leq (.t 46) (.t 48)), []⟩,
    ⟨(some 50), none, .q (.pick (.t 44) (.t 49) (.v (.bool false))), []⟩]
def c28_21 : ACode := .ops [
    ⟨(some 51), none, .q (.fa 1 (.t 1)), []⟩,
    ⟨(some 52), none, .q (.ld none (.t 51)), []⟩,
    ⟨(some 53), none, .q (.mki 39 (.t 52)), []⟩,
    ⟨(some 2), none, .q (.mv (.t 53)), []⟩]
def c28_22 : ACode := .seq c28_21 .ret
def c28_23 : ACode := .cond (.t 50) c28_22 .skip
def c28_24 : ACode := .seq c28_20 c28_23
def c28_25 : ACode := .cond (.t 39) c28_24 .skip
def c28_26 : ACode := .seq c28_19 c28_25
def c28_27 : ACode := .cond (.t 33) c28_18 c28_26
def c28_28 : ACode := .seq c28_16 c28_27
def c28_29 : ACode := .cond (.t 15) c28_15 c28_28
def c28_30 : ACode := .seq c28_8 c28_29
def c28_31 : ACode := .cond (.t 7) c28_7 c28_30
def c28_32 : ACode := .seq c28_2 c28_31
def c28_33 : ACode := .block 0 c28_32
def c28_34 : ACode := .seq c28_1 c28_33
def c28_35 : ACode := .ops [
    ⟨(some 54), none, .q (.build [] []), []⟩,
    ⟨(some 55), none, .q (.mki 100 (.t 54)), []⟩,
    ⟨(some 2), none, .q (.mv (.t 55)), []⟩]
def c28_36 : ACode := .seq c28_35 .ret
def c28_37 : ACode := .seq c28_34 c28_36
def c28_38 : ACode := .seq c28_0 c28_37
@[go_sem] theorem c28_0_wp : type_of% (wp_of c28_0.eq_1) := wp_of c28_0.eq_1
@[go_sem] theorem c28_1_wp : type_of% (wp_of c28_1.eq_1) := wp_of c28_1.eq_1
@[go_sem] theorem c28_2_wp : type_of% (wp_of c28_2.eq_1) := wp_of c28_2.eq_1
@[go_sem] theorem c28_3_wp : type_of% (wp_of c28_3.eq_1) := wp_of c28_3.eq_1
@[go_sem] theorem c28_4_wp : type_of% (wp_of c28_4.eq_1) := wp_of c28_4.eq_1
@[go_sem] theorem c28_5_wp : type_of% (wp_of c28_5.eq_1) := wp_of c28_5.eq_1
@[go_sem] theorem c28_6_wp : type_of% (wp_of c28_6.eq_1) := wp_of c28_6.eq_1
@[go_sem] theorem c28_7_wp : type_of% (wp_of c28_7.eq_1) := wp_of c28_7.eq_1
@[go_sem] theorem c28_8_wp : type_of% (wp_of c28_8.eq_1) := wp_of c28_8.eq_1
@[go_sem] theorem c28_9_wp : type_of% (wp_of c28_9.eq_1) := wp_of c28_9.eq_1
@[go_sem] theorem c28_10_wp : type_of% (wp_of c28_10.eq_1) := wp_of c28_10.eq_1
@[go_sem] theorem c28_11_wp : type_of% (wp_of c28_11.eq_1) := wp_of c28_11.eq_1
@[go_sem] theorem c28_12_wp : type_of% (wp_of c28_12.eq_1) := wp_of c28_12.eq_1
@[go_sem] theorem c28_13_wp : type_of% (wp_of c28_13.eq_1) := wp_of c28_13.eq_1
@[go_sem] theorem c28_14_wp : type_of% (wp_of c28_14.eq_1) := wp_of c28_14.eq_1
@[go_sem] theorem c28_15_wp : type_of% (wp_of c28_15.eq_1) := wp_of c28_15.eq_1
@[go_sem] theorem c28_16_wp : type_of% (wp_of c28_16.eq_1) := wp_of c28_16.eq_1
@[go_sem] theorem c28_17_wp : type_of% (wp_of c28_17.eq_1) := wp_of c28_17.eq_1
@[go_sem] theorem c28_18_wp : type_of% (wp_of c28_18.eq_1) := wp_of c28_18.eq_1
@[go_sem] theorem c28_19_wp : type_of% (wp_of c28_19.eq_1) := wp_of c28_19.eq_1
@[go_sem] theorem c28_20_wp : type_of% (wp_of c28_20.eq_1) := wp_of c28_20.eq_1
@[go_sem] theorem c28_21_wp : type_of% (wp_of c28_21.eq_1) := wp_of c28_21.eq_1
@[go_sem] theorem c28_22_wp : type_of% (wp_of c28_22.eq_1) := wp_of c28_22.eq_1
@[go_sem] theorem c28_23_wp : type_of% (wp_of c28_23.eq_1) := wp_of c28_23.eq_1
@[go_sem] theorem c28_24_wp : type_of% (wp_of c28_24.eq_1) := wp_of c28_24.eq_1
@[go_sem] theorem c28_25_wp : type_of% (wp_of c28_25.eq_1) := wp_of c28_25.eq_1
@[go_sem] theorem c28_26_wp : type_of% (wp_of c28_26.eq_1) := wp_of c28_26.eq_1
@[go_sem] theorem c28_27_wp : type_of% (wp_of c28_27.eq_1) := wp_of c28_27.eq_1
@[go_sem] theorem c28_28_wp : type_of% (wp_of c28_28.eq_1) := wp_of c28_28.eq_1
@[go_sem] theorem c28_29_wp : type_of% (wp_of c28_29.eq_1) := wp_of c28_29.eq_1
@[go_sem] theorem c28_30_wp : type_of% (wp_of c28_30.eq_1) := wp_of c28_30.eq_1
@[go_sem] theorem c28_31_wp : type_of% (wp_of c28_31.eq_1) := wp_of c28_31.eq_1
@[go_sem] theorem c28_32_wp : type_of% (wp_of c28_32.eq_1) := wp_of c28_32.eq_1
@[go_sem] theorem c28_33_wp : type_of% (wp_of c28_33.eq_1) := wp_of c28_33.eq_1
@[go_sem] theorem c28_34_wp : type_of% (wp_of c28_34.eq_1) := wp_of c28_34.eq_1
@[go_sem] theorem c28_35_wp : type_of% (wp_of c28_35.eq_1) := wp_of c28_35.eq_1
@[go_sem] theorem c28_36_wp : type_of% (wp_of c28_36.eq_1) := wp_of c28_36.eq_1
@[go_sem] theorem c28_37_wp : type_of% (wp_of c28_37.eq_1) := wp_of c28_37.eq_1
@[go_sem] theorem c28_38_wp : type_of% (wp_of c28_38.eq_1) := wp_of c28_38.eq_1
def c28 : AFn := ⟨56, [.t 2], c28_38⟩
set_option maxRecDepth 100000 in
theorem c28_ok : compF Tryd.prog Tryd.f28 = some c28 := by kernel_rfl
theorem a28 {args : List AV} {σ : ASt} {R : AV → ASt → Prop} (hl : args.length ≤ 56) (h : c28_38.wp Tryd.prog (RetQ [.t 2] R) (init args) σ) : ACalls Tryd.prog 28 args σ R := acalls_of Tryd.func28 c28_ok hl h

/-! 30: tabular/value.trim -/
def c30_0 : ACode := .ops [
    ⟨(some 2), none, .q (.mv (.v (.str []))), []⟩]
def c30_1 : ACode := .ops [
    ⟨(some 3), none, .q (.mv (.t 0)), []⟩,
    ⟨(some 4), none, .e (.call 64 [(.t 3), (.v (.str [32]))]), []⟩,
    ⟨(some 2), none, .q (.mv (.t 4)), []⟩]
def c30_2 : ACode := .seq c30_1 .ret
def c30_3 : ACode := .seq c30_0 c30_2
@[go_sem] theorem c30_0_wp : type_of% (wp_of c30_0.eq_1) := wp_of c30_0.eq_1
@[go_sem] theorem c30_1_wp : type_of% (wp_of c30_1.eq_1) := wp_of c30_1.eq_1
@[go_sem] theorem c30_2_wp : type_of% (wp_of c30_2.eq_1) := wp_of c30_2.eq_1
@[go_sem] theorem c30_3_wp : type_of% (wp_of c30_3.eq_1) := wp_of c30_3.eq_1
def c30 : AFn := ⟨5, [.t 2], c30_3⟩
set_option maxRecDepth 100000 in
theorem c30_ok : compF Tryd.prog Tryd.f30 = some c30 := by kernel_rfl
theorem a30 {args : List AV} {σ : ASt} {R : AV → ASt → Prop} (hl : args.length ≤ 5) (h : c30_3.wp Tryd.prog (RetQ [.t 2] R) (init args) σ) : ACalls Tryd.prog 30 args σ R := acalls_of Tryd.func30 c30_ok hl h

/-! 31: tabular/maths.limits -/
def c31_0 : ACode := .ops [
    ⟨(some 2), none, .q (.mv (.v (.int .i64 0))), []⟩,
    ⟨(some 3), none, .q (.mv (.v (.int .i64 0))), []⟩]
def c31_1 : ACode := .ops [
    ⟨(some 4), none, .q (.mv (.t 0)), []⟩]
def c31_2 : ACode := .ops [
    ⟨(some 6), none, .q (.bin .eql (.t 4) (.v (.str [65, 66, 83]))), []⟩,
    ⟨(some 5), none, .q (.mv (.t 6)), []⟩]
def c31_3 : ACode := .ops [
    ⟨(some 7), none, .q (.bin .eql (.t 4) (.v (.str [83, 73, 71, 78]))), []⟩,
    ⟨(some 5), none, .q (.mv (.t 7)), []⟩]
def c31_4 : ACode := .ops [
    ⟨(some 8), none, .q (.bin .eql (.t 4) (.v (.str [73, 78, 84]))), []⟩,
    ⟨(some 5), none, .q (.mv (.t 8)), []⟩]
def c31_5 : ACode := .ops [
    ⟨(some 9), none, .q (.bin .eql (.t 4) (.v (.str [83, 81, 82, 84]))), []⟩,
    ⟨(some 5), none, .q (.mv (.t 9)), []⟩]
def c31_6 : ACode := .ops [
    ⟨(some 10), none, .q (.bin .eql (.t 4) (.v (.str [70, 65, 67, 84]))), []⟩,
    ⟨(some 5), none, .q (.mv (.t 10)), []⟩]
def c31_7 : ACode := .ops [
    ⟨(some 11), none, .q (.bin .eql (.t 4) (.v (.str [69, 86, 69, 78]))), []⟩,
    ⟨(some 5), none, .q (.mv (.t 11)), []⟩]
def c31_8 : ACode := .ops [
    ⟨(some 12), none, .q (.bin .eql (.t 4) (.v (.str [79, 68, 68]))), []⟩,
    ⟨(some 5), none, .q (.mv (.t 12)), []⟩]
def c31_9 : ACode := .cond (.t 5) .skip c31_8
def c31_10 : ACode := .seq c31_7 c31_9
def c31_11 : ACode := .cond (.t 5) .skip c31_10
def c31_12 : ACode := .seq c31_6 c31_11
def c31_13 : ACode := .cond (.t 5) .skip c31_12
def c31_14 : ACode := .seq c31_5 c31_13
def c31_15 : ACode := .cond (.t 5) .skip c31_14
def c31_16 : ACode := .seq c31_4 c31_15
def c31_17 : ACode := .cond (.t 5) .skip c31_16
def c31_18 : ACode := .seq c31_3 c31_17
def c31_19 : ACode := .cond (.t 5) .skip c31_18
def c31_20 : ACode := .seq c31_2 c31_19
def c31_21 : ACode := .ops [
    ⟨(some 2), none, .q (.mv (.v (.int .i64 1))), []⟩,
    ⟨(some 3), none, .q (.mv (.v (.int .i64 1))), []⟩]
def c31_22 : ACode := .seq c31_21 .ret
def c31_23 : ACode := .ops [
    ⟨(some 14), none, .q (.bin .eql (.t 4) (.v (.str [84, 82, 85, 78, 67]))), []⟩,
    ⟨(some 13), none, .q (.mv (.t 14)), []⟩]
def c31_24 : ACode := .ops [
    ⟨(some 15), none, .q (.bin .eql (.t 4) (.v (.str [70, 76, 79, 79, 82]))), []⟩,
    ⟨(some 13), none, .q (.mv (.t 15)), []⟩]
def c31_25 : ACode := .ops [
    ⟨(some 16), none, .q (.bin .eql (.t 4) (.v (.str [67, 69, 73, 76, 73, 78, 71]))), []⟩,
    ⟨(some 13), none, .q (.mv (.t 16)), []⟩]
def c31_26 : ACode := .ops [
    ⟨(some 17), none, .q (.bin .eql (.t 4) (.v (.str [82, 79, 85, 78, 68]))), []⟩,
    ⟨(some 13), none, .q (.mv (.t 17)), []⟩]
def c31_27 : ACode := .ops [
    ⟨(some 18), none, .q (.bin .eql (.t 4) (.v (.str [82, 79, 85, 78, 68, 85, 80]))), []⟩,
    ⟨(some 13), none, .q (.mv (.t 18)), []⟩]
def c31_28 : ACode := .ops [
    ⟨(some 19), none, .q (.bin .eql (.t 4) (.v (.str [82, 79, 85, 78, 68, 68, 79, 87, 78]))), []⟩,
    ⟨(some 13), none, .q (.mv (.t 19)), []⟩]
def c31_29 : ACode := .cond (.t 13) .skip c31_28
def c31_30 : ACode := .seq c31_27 c31_29
def c31_31 : ACode := .cond (.t 13) .skip c31_30
def c31_32 : ACode := .seq c31_26 c31_31
def c31_33 : ACode := .cond (.t 13) .skip c31_32
def c31_34 : ACode := .seq c31_25 c31_33
def c31_35 : ACode := .cond (.t 13) .skip c31_34
def c31_36 : ACode := .seq c31_24 c31_35
def c31_37 : ACode := .cond (.t 13) .skip c31_36
def c31_38 : ACode := .seq c31_23 c31_37
def c31_39 : ACode := .ops [
    ⟨(some 2), none, .q (.mv (.v (.int .i64 1))), []⟩,
    ⟨(some 3), none, .q (.mv (.v (.int .i64 2))), []⟩]
def c31_40 : ACode := .seq c31_39 .ret
def c31_41 : ACode := .ops [
    ⟨(some 21), none, .q (.bin .eql (.t 4) (.v (.str [77, 82, 79, 85, 78, 68]))), []⟩,
    ⟨(some 20), none, .q (.mv (.t 21)), []⟩]
def c31_42 : ACode := .ops [
    ⟨(some 22), none, .q (.bin .eql (.t 4) (.v (.str [77, 79, 68]))), []⟩,
    ⟨(some 20), none, .q (.mv (.t 22)), []⟩]
def c31_43 : ACode := .ops [
    ⟨(some 23), none, .q (.bin .eql (.t 4) (.v (.str [81, 85, 79, 84, 73, 69, 78, 84]))), []⟩,
    ⟨(some 20), none, .q (.mv (.t 23)), []⟩]
def c31_44 : ACode := .ops [
    ⟨(some 24), none, .q (.bin .eql (.t 4) (.v (.str [80, 79, 87, 69, 82]))), []⟩,
    ⟨(some 20), none, .q (.mv (.t 24)), []⟩]
def c31_45 : ACode := .cond (.t 20) .skip c31_44
def c31_46 : ACode := .seq c31_43 c31_45
def c31_47 : ACode := .cond (.t 20) .skip c31_46
def c31_48 : ACode := .seq c31_42 c31_47
def c31_49 : ACode := .cond (.t 20) .skip c31_48
def c31_50 : ACode := .seq c31_41 c31_49
def c31_51 : ACode := .ops [
    ⟨(some 2), none, .q (.mv (.v (.int .i64 2))), []⟩,
    ⟨(some 3), none, .q (.mv (.v (.int .i64 2))), []⟩]
def c31_52 : ACode := .seq c31_51 .ret
def c31_53 : ACode := .ops [
    ⟨(some 26), none, .q (.bin .eql (.t 4) (.v (.str [67, 76, 65, 77, 80]))), []⟩,
    ⟨(some 25), none, .q (.mv (.t 26)), []⟩]
def c31_54 : ACode := .ops [
    ⟨(some 2), none, .q (.mv (.v (.int .i64 3))), []⟩,
    ⟨(some 3), none, .q (.mv (.v (.int .i64 3))), []⟩]
def c31_55 : ACode := .seq c31_54 .ret
def c31_56 : ACode := .ops [
    ⟨(some 28), none, .q (.bin .eql (.t 4) (.v (.str [71, 67, 68]))), []⟩,
    ⟨(some 27), none, .q (.mv (.t 28)), []⟩]
def c31_57 : ACode := .ops [
    ⟨(some 29), none, .q (.bin .eql (.t 4) (.v (.str [76, 67, 77]))), []⟩,
    ⟨(some 27), none, .q (.mv (.t 29)), []⟩]
def c31_58 : ACode := .cond (.t 27) .skip c31_57
def c31_59 : ACode := .seq c31_56 c31_58
def c31_60 : ACode := .ops [
    ⟨(some 2), none, .q (.mv (.v (.int .i64 1))), []⟩,
    ⟨(some 3), none, .q (.mv (.v (.int .i64 30))), []⟩]
def c31_61 : ACode := .seq c31_60 .ret
def c31_62 : ACode := .cond (.t 27) c31_61 .skip
def c31_63 : ACode := .seq c31_59 c31_62
def c31_64 : ACode := .cond (.t 25) c31_55 c31_63
def c31_65 : ACode := .seq c31_53 c31_64
def c31_66 : ACode := .cond (.t 20) c31_52 c31_65
def c31_67 : ACode := .seq c31_50 c31_66
def c31_68 : ACode := .cond (.t 13) c31_40 c31_67
def c31_69 : ACode := .seq c31_38 c31_68
def c31_70 : ACode := .cond (.t 5) c31_22 c31_69
def c31_71 : ACode := .seq c31_20 c31_70
def c31_72 : ACode := .block 0 c31_71
def c31_73 : ACode := .seq c31_1 c31_72
def c31_74 : ACode := .ops [
    ⟨(some 2), none, .q (.mv (.v (.int .i64 0))), []⟩,
    ⟨(some 3), none, .q (.mv (.v (.int .i64 0))), []⟩]
def c31_75 : ACode := .seq c31_74 .ret
def c31_76 : ACode := .seq c31_73 c31_75
def c31_77 : ACode := .seq c31_0 c31_76
@[go_sem] theorem c31_0_wp : type_of% (wp_of c31_0.eq_1) := wp_of c31_0.eq_1
@[go_sem] theorem c31_1_wp : type_of% (wp_of c31_1.eq_1) := wp_of c31_1.eq_1
@[go_sem] theorem c31_2_wp : type_of% (wp_of c31_2.eq_1) := wp_of c31_2.eq_1
@[go_sem] theorem c31_3_wp : type_of% (wp_of c31_3.eq_1) := wp_of c31_3.eq_1
@[go_sem] theorem c31_4_wp : type_of% (wp_of c31_4.eq_1) := wp_of c31_4.eq_1
@[go_sem] theorem c31_5_wp : type_of% (wp_of c31_5.eq_1) := wp_of c31_5.eq_1
@[go_sem] theorem c31_6_wp : type_of% (wp_of c31_6.eq_1) := wp_of c31_6.eq_1
@[go_sem] theorem c31_7_wp : type_of% (wp_of c31_7.eq_1) := wp_of c31_7.eq_1
@[go_sem] theorem c31_8_wp : type_of% (wp_of c31_8.eq_1) := wp_of c31_8.eq_1
@[go_sem] theorem c31_9_wp : type_of% (wp_of c31_9.eq_1) := wp_of c31_9.eq_1
@[go_sem] theorem c31_10_wp : type_of% (wp_of c31_10.eq_1) := wp_of c31_10.eq_1
@[go_sem] theorem c31_11_wp : type_of% (wp_of c31_11.eq_1) := wp_of c31_11.eq_1
@[go_sem] theorem c31_12_wp : type_of% (wp_of c31_12.eq_1) := wp_of c31_12.eq_1
@[go_sem] theorem c31_13_wp : type_of% (wp_of c31_13.eq_1) := wp_of c31_13.eq_1
@[go_sem] theorem c31_14_wp : type_of% (wp_of c31_14.eq_1) := wp_of c31_14.eq_1
@[go_sem] theorem c31_15_wp : type_of% (wp_of c31_15.eq_1) := wp_of c31_15.eq_1
@[go_sem] theorem c31_16_wp : type_of% (wp_of c31_16.eq_1) := wp_of c31_16.eq_1
@[go_sem] theorem c31_17_wp : type_of% (wp_of c31_17.eq_1) := wp_of c31_17.eq_1
@[go_sem] theorem c31_18_wp : type_of% (wp_of c31_18.eq_1) := wp_of c31_18.eq_1
@[go_sem] theorem c31_19_wp : type_of% (wp_of c31_19.eq_1) := wp_of c31_19.eq_1
@[go_sem] theorem c31_20_wp : type_of% (wp_of c31_20.eq_1) := wp_of c31_20.eq_1
@[go_sem] theorem c31_21_wp : type_of% (wp_of c31_21.eq_1) := wp_of c31_21.eq_1
@[go_sem] theorem c31_22_wp : type_of% (wp_of c31_22.eq_1) := wp_of c31_22.eq_1
@[go_sem] theorem c31_23_wp : type_of% (wp_of c31_23.eq_1) := wp_of c31_23.eq_1
@[go_sem] theorem c31_24_wp : type_of% (wp_of c31_24.eq_1) := wp_of c31_24.eq_1
@[go_sem] theorem c31_25_wp : type_of% (wp_of c31_25.eq_1) := wp_of c31_25.eq_1
@[go_sem] theorem c31_26_wp : type_of% (wp_of c31_26.eq_1) := wp_of c31_26.eq_1
@[go_sem] theorem c31_27_wp : type_of% (wp_of c31_27.eq_1) := wp_of c31_27.eq_1
@[go_sem] theorem c31_28_wp : type_of% (wp_of c31_28.eq_1) := wp_of c31_28.eq_1
@[go_sem] theorem c31_29_wp : type_of% (wp_of c31_29.eq_1) := wp_of c31_29.eq_1
@[go_sem] theorem c31_30_wp : type_of% (wp_of c31_30.eq_1) := wp_of c31_30.eq_1
@[go_sem] theorem c31_31_wp : type_of% (wp_of c31_31.eq_1) := wp_of c31_31.eq_1
@[go_sem] theorem c31_32_wp : type_of% (wp_of c31_32.eq_1) := wp_of c31_32.eq_1
@[go_sem] theorem c31_33_wp : type_of% (wp_of c31_33.eq_1) := wp_of c31_33.eq_1
@[go_sem] theorem c31_34_wp : type_of% (wp_of c31_34.eq_1) := wp_of c31_34.eq_1
@[go_sem] theorem c31_35_wp : type_of% (wp_of c31_35.eq_1) := wp_of c31_35.eq_1
@[go_sem] theorem c31_36_wp : type_of% (wp_of c31_36.eq_1) := wp_of c31_36.eq_1
@[go_sem] theorem c31_37_wp : type_of% (wp_of c31_37.eq_1) := wp_of c31_37.eq_1
@[go_sem] theorem c31_38_wp : type_of% (wp_of c31_38.eq_1) := wp_of c31_38.eq_1
@[go_sem] theorem c31_39_wp : type_of% (wp_of c31_39.eq_1) := wp_of c31_39.eq_1
@[go_sem] theorem c31_40_wp : type_of% (wp_of c31_40.eq_1) := wp_of c31_40.eq_1
@[go_sem] theorem c31_41_wp : type_of% (wp_of c31_41.eq_1) := wp_of c31_41.eq_1
@[go_sem] theorem c31_42_wp : type_of% (wp_of c31_42.eq_1) := wp_of c31_42.eq_1
@[go_sem] theorem c31_43_wp : type_of% (wp_of c31_43.eq_1) := wp_of c31_43.eq_1
@[go_sem] theorem c31_44_wp : type_of% (wp_of c31_44.eq_1) := wp_of c31_44.eq_1
@[go_sem] theorem c31_45_wp : type_of% (wp_of c31_45.eq_1) := wp_of c31_45.eq_1
@[go_sem] theorem c31_46_wp : type_of% (wp_of c31_46.eq_1) := wp_of c31_46.eq_1
@[go_sem] theorem c31_47_wp : type_of% (wp_of c31_47.eq_1) := wp_of c31_47.eq_1
@[go_sem] theorem c31_48_wp : type_of% (wp_of c31_48.eq_1) := wp_of c31_48.eq_1
@[go_sem] theorem c31_49_wp : type_of% (wp_of c31_49.eq_1) := wp_of c31_49.eq_1
@[go_sem] theorem c31_50_wp : type_of% (wp_of c31_50.eq_1) := wp_of c31_50.eq_1
@[go_sem] theorem c31_51_wp : type_of% (wp_of c31_51.eq_1) := wp_of c31_51.eq_1
@[go_sem] theorem c31_52_wp : type_of% (wp_of c31_52.eq_1) := wp_of c31_52.eq_1
@[go_sem] theorem c31_53_wp : type_of% (wp_of c31_53.eq_1) := wp_of c31_53.eq_1
@[go_sem] theorem c31_54_wp : type_of% (wp_of c31_54.eq_1) := wp_of c31_54.eq_1
@[go_sem] theorem c31_55_wp : type_of% (wp_of c31_55.eq_1) := wp_of c31_55.eq_1
@[go_sem] theorem c31_56_wp : type_of% (wp_of c31_56.eq_1) := wp_of c31_56.eq_1
@[go_sem] theorem c31_57_wp : type_of% (wp_of c31_57.eq_1) := wp_of c31_57.eq_1
@[go_sem] theorem c31_58_wp : type_of% (wp_of c31_58.eq_1) := wp_of c31_58.eq_1
@[go_sem] theorem c31_59_wp : type_of% (wp_of c31_59.eq_1) := wp_of c31_59.eq_1
@[go_sem] theorem c31_60_wp : type_of% (wp_of c31_60.eq_1) := wp_of c31_60.eq_1
@[go_sem] theorem c31_61_wp : type_of% (wp_of c31_61.eq_1) := wp_of c31_61.eq_1
@[go_sem] theorem c31_62_wp : type_of% (wp_of c31_62.eq_1) := wp_of c31_62.eq_1
@[go_sem] theorem c31_63_wp : type_of% (wp_of c31_63.eq_1) := wp_of c31_63.eq_1
@[go_sem] theorem c31_64_wp : type_of% (wp_of c31_64.eq_1) := wp_of c31_64.eq_1
@[go_sem] theorem c31_65_wp : type_of% (wp_of c31_65.eq_1) := wp_of c31_65.eq_1
@[go_sem] theorem c31_66_wp : type_of% (wp_of c31_66.eq_1) := wp_of c31_66.eq_1
@[go_sem] theorem c31_67_wp : type_of% (wp_of c31_67.eq_1) := wp_of c31_67.eq_1
@[go_sem] theorem c31_68_wp : type_of% (wp_of c31_68.eq_1) := wp_of c31_68.eq_1
@[go_sem] theorem c31_69_wp : type_of% (wp_of c31_69.eq_1) := wp_of c31_69.eq_1
@[go_sem] theorem c31_70_wp : type_of% (wp_of c31_70.eq_1) := wp_of c31_70.eq_1
@[go_sem] theorem c31_71_wp : type_of% (wp_of c31_71.eq_1) := wp_of c31_71.eq_1
@[go_sem] theorem c31_72_wp : type_of% (wp_of c31_72.eq_1) := wp_of c31_72.eq_1
@[go_sem] theorem c31_73_wp : type_of% (wp_of c31_73.eq_1) := wp_of c31_73.eq_1
@[go_sem] theorem c31_74_wp : type_of% (wp_of c31_74.eq_1) := wp_of c31_74.eq_1
@[go_sem] theorem c31_75_wp : type_of% (wp_of c31_75.eq_1) := wp_of c31_75.eq_1
@[go_sem] theorem c31_76_wp : type_of% (wp_of c31_76.eq_1) := wp_of c31_76.eq_1
@[go_sem] theorem c31_77_wp : type_of% (wp_of c31_77.eq_1) := wp_of c31_77.eq_1
def c31 : AFn := ⟨30, [.t 2, .t 3], c31_77⟩
set_option maxRecDepth 100000 in
theorem c31_ok : compF Tryd.prog Tryd.f31 = some c31 := by kernel_rfl
theorem a31 {args : List AV} {σ : ASt} {R : AV → ASt → Prop} (hl : args.length ≤ 30) (h : c31_77.wp Tryd.prog (RetQ [.t 2, .t 3] R) (init args) σ) : ACalls Tryd.prog 31 args σ R := acalls_of Tryd.func31 c31_ok hl h

/-! 32: tabular/maths.numbers -/
def c32_0 : ACode := .ops [
    ⟨(some 2), none, .q (.mv (.v (.sl .full []))), []⟩,
    ⟨(some 3), none, .q (.mv (.v (.int .i64 0))), []⟩]
def c32_1 : ACode := .ops [
    ⟨(some 4), none, .q (.mv (.v (.sl .full []))), []⟩]
def c32_2 : ACode := .ops [
    ⟨(some 9), none, .q (.mv (.t 0)), []⟩,
    ⟨(some 10), none, .q (.len (.t 9)), []⟩,
    ⟨(some 11), none, .q (.mv (.v (.int .i64 0))), []⟩]
def c32_3 : ACode := .ops [
    ⟨(some 12), none, .q (.bin .lss (.t 11) (.t 10)), []⟩]
def c32_4 : ACode := .cond (.t 12) .skip (.exit 0)
def c32_5 : ACode := .ops [
    ⟨(some 13), none, .q (.ia 4 (.t 9) (.t 11)), []⟩,
    ⟨(some 14), none, .q (.ld (some 4) (.t 13)), []⟩,
    ⟨(some 6), none, .e (.alloc [(.int .i64 0), (.int .i64 0), (.bool false), (.sl .full [])]), []⟩,
    ⟨none, none, .e (.store 4 (.t 6) (.t 14)), []⟩]
def c32_6 : ACode := .ops [
    ⟨(some 16), none, .q (.ld (some 4) (.t 6)), []⟩,
    ⟨(some 17), none, .e (.call 17 [(.t 16)]), []⟩,
    ⟨(some 18), none, .e (.call 16 [(.t 17)]), []⟩,
    ⟨(some 15), none, .q (.mv (.t 18)), []⟩,
    ⟨(some 19), none, .q (.ext 0 (.t 15)), []⟩,
    ⟨(some 20), none, .q (.ext 1 (.t 15)), []⟩,
    ⟨(some 7), none, .q (.mv (.t 19)), []⟩,
    ⟨(some 8), none, .q (.mv (.t 20)), []⟩]
def c32_7 : ACode := .ops [
    ⟨(some 21), none, .q (.mv (.t 8)), []⟩,
    ⟨(some 22), none, .q (.bin .neq (.t 21) (.v (.int .i64 0))), []⟩]
def c32_8 : ACode := .ops [
    ⟨(some 23), none, .q (.mv (.t 8)), []⟩,
    ⟨(some 2), none, .q (.mv (.v (.sl .full []))), []⟩,
    ⟨(some 3), none, .q (.mv (.t 23)), []⟩]
def c32_9 : ACode := .seq c32_8 .ret
def c32_10 : ACode := .cond (.t 22) c32_9 .skip
def c32_11 : ACode := .seq c32_7 c32_10
def c32_12 : ACode := .ops [
    ⟨(some 24), none, .q (.mv (.t 4)), []⟩,
    ⟨(some 25), none, .q (.mv (.t 7)), []⟩,
    ⟨(some 26), none, .q (.bsl 1 [(.t 25)]), []⟩,
    ⟨(some 27), none, .e (.app 22 1 8 [(.int .i64 0)] (.t 24) (.t 26)), []⟩,
    ⟨(some 4), none, .q (.mv (.t 27)), []⟩]
def c32_13 : ACode := .seq c32_11 c32_12
def c32_14 : ACode := .seq c32_6 c32_13
def c32_15 : ACode := .seq c32_5 c32_14
def c32_16 : ACode := .block 1 c32_15
def c32_17 : ACode := .ops [
    ⟨(some 28), none, .q (.bin .add (.t 11) (.v (.int .i64 1))), []⟩,
    ⟨(some 11), none, .q (.mv (.t 28)), []⟩]
def c32_18 : ACode := .seq c32_16 c32_17
def c32_19 : ACode := .seq c32_4 c32_18
def c32_20 : ACode := .seq c32_3 c32_19
def c32_21 : ACode := .loop c32_20
def c32_22 : ACode := .block 0 c32_21
def c32_23 : ACode := .seq c32_2 c32_22
def c32_24 : ACode := .ops [
    ⟨(some 29), none, .q (.mv (.t 4)), []⟩,
    ⟨(some 2), none, .q (.mv (.t 29)), []⟩,
    ⟨(some 3), none, .q (.mv (.v (.int .i64 0))), []⟩]
def c32_25 : ACode := .seq c32_24 .ret
def c32_26 : ACode := .seq c32_23 c32_25
def c32_27 : ACode := .seq c32_1 c32_26
def c32_28 : ACode := .seq c32_0 c32_27
@[go_sem] theorem c32_0_wp : type_of% (wp_of c32_0.eq_1) := wp_of c32_0.eq_1
@[go_sem] theorem c32_1_wp : type_of% (wp_of c32_1.eq_1) := wp_of c32_1.eq_1
@[go_sem] theorem c32_2_wp : type_of% (wp_of c32_2.eq_1) := wp_of c32_2.eq_1
@[go_sem] theorem c32_3_wp : type_of% (wp_of c32_3.eq_1) := wp_of c32_3.eq_1
@[go_sem] theorem c32_4_wp : type_of% (wp_of c32_4.eq_1) := wp_of c32_4.eq_1
@[go_sem] theorem c32_5_wp : type_of% (wp_of c32_5.eq_1) := wp_of c32_5.eq_1
@[go_sem] theorem c32_6_wp : type_of% (wp_of c32_6.eq_1) := wp_of c32_6.eq_1
@[go_sem] theorem c32_7_wp : type_of% (wp_of c32_7.eq_1) := wp_of c32_7.eq_1
@[go_sem] theorem c32_8_wp : type_of% (wp_of c32_8.eq_1) := wp_of c32_8.eq_1
@[go_sem] theorem c32_9_wp : type_of% (wp_of c32_9.eq_1) := wp_of c32_9.eq_1
@[go_sem] theorem c32_10_wp : type_of% (wp_of c32_10.eq_1) := wp_of c32_10.eq_1
@[go_sem] theorem c32_11_wp : type_of% (wp_of c32_11.eq_1) := wp_of c32_11.eq_1
@[go_sem] theorem c32_12_wp : type_of% (wp_of c32_12.eq_1) := wp_of c32_12.eq_1
@[go_sem] theorem c32_13_wp : type_of% (wp_of c32_13.eq_1) := wp_of c32_13.eq_1
@[go_sem] theorem c32_14_wp : type_of% (wp_of c32_14.eq_1) := wp_of c32_14.eq_1
@[go_sem] theorem c32_15_wp : type_of% (wp_of c32_15.eq_1) := wp_of c32_15.eq_1
@[go_sem] theorem c32_16_wp : type_of% (wp_of c32_16.eq_1) := wp_of c32_16.eq_1
@[go_sem] theorem c32_17_wp : type_of% (wp_of c32_17.eq_1) := wp_of c32_17.eq_1
@[go_sem] theorem c32_18_wp : type_of% (wp_of c32_18.eq_1) := wp_of c32_18.eq_1
@[go_sem] theorem c32_19_wp : type_of% (wp_of c32_19.eq_1) := wp_of c32_19.eq_1
@[go_sem] theorem c32_20_wp : type_of% (wp_of c32_20.eq_1) := wp_of c32_20.eq_1
@[go_sem] theorem c32_21_wp : type_of% (wp_of c32_21.eq_1) := wp_of c32_21.eq_1
@[go_sem] theorem c32_22_wp : type_of% (wp_of c32_22.eq_1) := wp_of c32_22.eq_1
@[go_sem] theorem c32_23_wp : type_of% (wp_of c32_23.eq_1) := wp_of c32_23.eq_1
@[go_sem] theorem c32_24_wp : type_of% (wp_of c32_24.eq_1) := wp_of c32_24.eq_1
@[go_sem] theorem c32_25_wp : type_of% (wp_of c32_25.eq_1) := wp_of c32_25.eq_1
@[go_sem] theorem c32_26_wp : type_of% (wp_of c32_26.eq_1) := wp_of c32_26.eq_1
@[go_sem] theorem c32_27_wp : type_of% (wp_of c32_27.eq_1) := wp_of c32_27.eq_1
@[go_sem] theorem c32_28_wp : type_of% (wp_of c32_28.eq_1) := wp_of c32_28.eq_1
def c32 : AFn := ⟨30, [.t 2, .t 3], c32_28⟩
set_option maxRecDepth 100000 in
theorem c32_ok : compF Tryd.prog Tryd.f32 = some c32 := by kernel_rfl
theorem a32 {args : List AV} {σ : ASt} {R : AV → ASt → Prop} (hl : args.length ≤ 30) (h : c32_28.wp Tryd.prog (RetQ [.t 2, .t 3] R) (init args) σ) : ACalls Tryd.prog 32 args σ R := acalls_of Tryd.func32 c32_ok hl h

/-! 34: tabular/value.Counted -/
def c34_0 : ACode := .ops [
    ⟨(some 4), none, .q (.mv (.v .nili)), []⟩]
def c34_1 : ACode := .ops [
    ⟨(some 5), none, .q (.mv (.t 1)), []⟩,
    ⟨(some 6), none, .q (.un .not (.t 5)), []⟩]
def c34_2 : ACode := .ops [
    ⟨(some 7), none, .q (.mki 39 (.v (.int .i64 2))), []⟩,
    ⟨(some 4), none, .q (.mv (.t 7)), []⟩]
def c34_3 : ACode := .seq c34_2 .ret
def c34_4 : ACode := .cond (.t 6) c34_3 .skip
def c34_5 : ACode := .seq c34_1 c34_4
def c34_6 : ACode := .ops [
    ⟨(some 8), none, .q (.mv (.t 0)), []⟩,
    ⟨(some 9), none, .q (.mki 62 (.t 8)), []⟩,
    ⟨(some 4), none, .q (.mv (.t 9)), []⟩]
def c34_7 : ACode := .seq c34_6 .ret
def c34_8 : ACode := .seq c34_5 c34_7
def c34_9 : ACode := .seq c34_0 c34_8
@[go_sem] theorem c34_0_wp : type_of% (wp_of c34_0.eq_1) := wp_of c34_0.eq_1
@[go_sem] theorem c34_1_wp : type_of% (wp_of c34_1.eq_1) := wp_of c34_1.eq_1
@[go_sem] theorem c34_2_wp : type_of% (wp_of c34_2.eq_1) := wp_of c34_2.eq_1
@[go_sem] theorem c34_3_wp : type_of% (wp_of c34_3.eq_1) := wp_of c34_3.eq_1
@[go_sem] theorem c34_4_wp : type_of% (wp_of c34_4.eq_1) := wp_of c34_4.eq_1
@[go_sem] theorem c34_5_wp : type_of% (wp_of c34_5.eq_1) := wp_of c34_5.eq_1
@[go_sem] theorem c34_6_wp : type_of% (wp_of c34_6.eq_1) := wp_of c34_6.eq_1
@[go_sem] theorem c34_7_wp : type_of% (wp_of c34_7.eq_1) := wp_of c34_7.eq_1
@[go_sem] theorem c34_8_wp : type_of% (wp_of c34_8.eq_1) := wp_of c34_8.eq_1
@[go_sem] theorem c34_9_wp : type_of% (wp_of c34_9.eq_1) := wp_of c34_9.eq_1
def c34 : AFn := ⟨10, [.t 4], c34_9⟩
set_option maxRecDepth 100000 in
theorem c34_ok : compF Tryd.prog Tryd.f34 = some c34 := by kernel_rfl
theorem a34 {args : List AV} {σ : ASt} {R : AV → ASt → Prop} (hl : args.length ≤ 10) (h : c34_9.wp Tryd.prog (RetQ [.t 4] R) (init args) σ) : ACalls Tryd.prog 34 args σ R := acalls_of Tryd.func34 c34_ok hl h

/-! 59: tabular/token.Signs -/
def c59_0 : ACode := .ops [
    ⟨(some 2), none, .q (.mv (.v (.int .i64 0))), []⟩,
    ⟨(some 3), none, .q (.mv (.v (.bool false))), []⟩]
def c59_1 : ACode := .ops [
    ⟨(some 4), none, .q (.mv (.v (.int .i64 0))), []⟩]
def c59_2 : ACode := .ops [
    ⟨(some 9), none, .q (.mv (.t 0)), []⟩,
    ⟨(some 10), none, .e (.rng (.t 9)), []⟩]
def c59_3 : ACode := .ops [
    ⟨(some 11), none, .e (.nxt (.t 10)), []⟩,
    ⟨(some 12), none, .q (.ext 0 (.t 11)), []⟩]
def c59_4 : ACode := .cond (.t 12) .skip (.exit 0)
def c59_5 : ACode := .ops [
    ⟨(some 13), none, .q (.ext 1 (.t 11)), []⟩,
    ⟨(some 14), none, .q (.ext 2 (.t 11)), []⟩,
    ⟨(some 5), none, .q (.mv (.t 13)), []⟩,
    ⟨(some 6), none, .q (.mv (.t 14)), []⟩]
def c59_6 : ACode := .ops [
    ⟨(some 15), none, .q (.mv (.t 6)), []⟩,
    ⟨(some 16), none, .q (.bin .eql (.t 15) (.v (.int .i32 65533))), []⟩]
def c59_7 : ACode := .ops [
    ⟨(some 18), none, .q (.mv (.t 0)), []⟩,
    ⟨(some 19), none, .q (.mv (.t 5)), []⟩,
    ⟨(some 20), none, .q (.slfrom (true, 0) (.t 18) (.t 19)), []⟩,
    ⟨(some 21), none, .e (.call 85 [(.t 20)]), []⟩,
    ⟨(some 17), none, .q (.mv (.t 21)), []⟩,
    ⟨(some 22), none, .q (.ext 0 (.t 17)), []⟩,
    ⟨(some 23), none, .q (.ext 1 (.t 17)), []⟩,
    ⟨(some 7), none, .q (.mv (.t 22)), []⟩,
    ⟨(some 8), none, .q (.mv (.t 23)), []⟩]
def c59_8 : ACode := .ops [
    ⟨(some 24), none, .q (.mv (.t 8)), []⟩,
    ⟨(some 25), none, .q (.bin .eql (.t 24) (.v (.int .i64 1))), []⟩]
def c59_9 : ACode := .ops [
    ⟨(some 2), none, .q (.mv (.v (.int .i64 0))), []⟩,
    ⟨(some 3), none, .q (.mv (.v (.bool false))), []⟩]
def c59_10 : ACode := .seq c59_9 .ret
def c59_11 : ACode := .cond (.t 25) c59_10 .skip
def c59_12 : ACode := .seq c59_8 c59_11
def c59_13 : ACode := .seq c59_7 c59_12
def c59_14 : ACode := .cond (.t 16) c59_13 .skip
def c59_15 : ACode := .seq c59_6 c59_14
def c59_16 : ACode := .ops [
    ⟨(some 26), none, .q (.mv (.t 4)), []⟩,
    ⟨(some 27), none, .q (.bin .add (.t 26) (.v (.int .i64 1))), []⟩,
    ⟨(some 4), none, .q (.mv (.t 27)), []⟩]
def c59_17 : ACode := .seq c59_15 c59_16
def c59_18 : ACode := .seq c59_5 c59_17
def c59_19 : ACode := .block 1 c59_18
def c59_20 : ACode := .seq c59_4 c59_19
def c59_21 : ACode := .seq c59_3 c59_20
def c59_22 : ACode := .loop c59_21
def c59_23 : ACode := .block 0 c59_22
def c59_24 : ACode := .seq c59_2 c59_23
def c59_25 : ACode := .ops [
    ⟨(some 28), none, .q (.mv (.t 4)), []⟩,
    ⟨(some 2), none, .q (.mv (.t 28)), []⟩,
    ⟨(some 3), none, .q (.mv (.v (.bool true))), []⟩]
def c59_26 : ACode := .seq c59_25 .ret
def c59_27 : ACode := .seq c59_24 c59_26
def c59_28 : ACode := .seq c59_1 c59_27
def c59_29 : ACode := .seq c59_0 c59_28
@[go_sem] theorem c59_0_wp : type_of% (wp_of c59_0.eq_1) := wp_of c59_0.eq_1
@[go_sem] theorem c59_1_wp : type_of% (wp_of c59_1.eq_1) := wp_of c59_1.eq_1
@[go_sem] theorem c59_2_wp : type_of% (wp_of c59_2.eq_1) := wp_of c59_2.eq_1
@[go_sem] theorem c59_3_wp : type_of% (wp_of c59_3.eq_1) := wp_of c59_3.eq_1
@[go_sem] theorem c59_4_wp : type_of% (wp_of c59_4.eq_1) := wp_of c59_4.eq_1
@[go_sem] theorem c59_5_wp : type_of% (wp_of c59_5.eq_1) := wp_of c59_5.eq_1
@[go_sem] theorem c59_6_wp : type_of% (wp_of c59_6.eq_1) := wp_of c59_6.eq_1
@[go_sem] theorem c59_7_wp : type_of% (wp_of c59_7.eq_1) := wp_of c59_7.eq_1
@[go_sem] theorem c59_8_wp : type_of% (wp_of c59_8.eq_1) := wp_of c59_8.eq_1
@[go_sem] theorem c59_9_wp : type_of% (wp_of c59_9.eq_1) := wp_of c59_9.eq_1
@[go_sem] theorem c59_10_wp : type_of% (wp_of c59_10.eq_1) := wp_of c59_10.eq_1
@[go_sem] theorem c59_11_wp : type_of% (wp_of c59_11.eq_1) := wp_of c59_11.eq_1
@[go_sem] theorem c59_12_wp : type_of% (wp_of c59_12.eq_1) := wp_of c59_12.eq_1
@[go_sem] theorem c59_13_wp : type_of% (wp_of c59_13.eq_1) := wp_of c59_13.eq_1
@[go_sem] theorem c59_14_wp : type_of% (wp_of c59_14.eq_1) := wp_of c59_14.eq_1
@[go_sem] theorem c59_15_wp : type_of% (wp_of c59_15.eq_1) := wp_of c59_15.eq_1
@[go_sem] theorem c59_16_wp : type_of% (wp_of c59_16.eq_1) := wp_of c59_16.eq_1
@[go_sem] theorem c59_17_wp : type_of% (wp_of c59_17.eq_1) := wp_of c59_17.eq_1
@[go_sem] theorem c59_18_wp : type_of% (wp_of c59_18.eq_1) := wp_of c59_18.eq_1
@[go_sem] theorem c59_19_wp : type_of% (wp_of c59_19.eq_1) := wp_of c59_19.eq_1
@[go_sem] theorem c59_20_wp : type_of% (wp_of c59_20.eq_1) := wp_of c59_20.eq_1
@[go_sem] theorem c59_21_wp : type_of% (wp_of c59_21.eq_1) := wp_of c59_21.eq_1
@[go_sem] theorem c59_22_wp : type_of% (wp_of c59_22.eq_1) := wp_of c59_22.eq_1
@[go_sem] theorem c59_23_wp : type_of% (wp_of c59_23.eq_1) := wp_of c59_23.eq_1
@[go_sem] theorem c59_24_wp : type_of% (wp_of c59_24.eq_1) := wp_of c59_24.eq_1
@[go_sem] theorem c59_25_wp : type_of% (wp_of c59_25.eq_1) := wp_of c59_25.eq_1
@[go_sem] theorem c59_26_wp : type_of% (wp_of c59_26.eq_1) := wp_of c59_26.eq_1
@[go_sem] theorem c59_27_wp : type_of% (wp_of c59_27.eq_1) := wp_of c59_27.eq_1
@[go_sem] theorem c59_28_wp : type_of% (wp_of c59_28.eq_1) := wp_of c59_28.eq_1
@[go_sem] theorem c59_29_wp : type_of% (wp_of c59_29.eq_1) := wp_of c59_29.eq_1
def c59 : AFn := ⟨29, [.t 2, .t 3], c59_29⟩
set_option maxRecDepth 100000 in
theorem c59_ok : compF Tryd.prog Tryd.f59 = some c59 := by kernel_rfl
theorem a59 {args : List AV} {σ : ASt} {R : AV → ASt → Prop} (hl : args.length ≤ 29) (h : c59_29.wp Tryd.prog (RetQ [.t 2, .t 3] R) (init args) σ) : ACalls Tryd.prog 59 args σ R := acalls_of Tryd.func59 c59_ok hl h

/-! 60: tabular/token.Errors -/
def c60_0 : ACode := .ops [
    ⟨(some 0), none, .q (.mv (.v (.sl .full []))), []⟩]
def c60_1 : ACode := .ops [
    ⟨(some 1), none, .q (.bsl 1 [(.v (.str [35, 68, 73, 86, 47, 48, 33])), (.v (.str [35, 78, 85, 77, 33])), (.v (.str [35, 86, 65, 76, 85, 69, 33])), (.v (.str [35, 82, 69, 70, 33])), (.v (.str [35, 78, 47, 65])), (.v (.str [35, 78, 65, 77, 69, 63])), (.v (.str [35, 67, 89, 67, 76, 69, 33]))]), []⟩,
    ⟨(some 0), none, .q (.mv (.t 1)), []⟩]
def c60_2 : ACode := .seq c60_1 .ret
def c60_3 : ACode := .seq c60_0 c60_2
@[go_sem] theorem c60_0_wp : type_of% (wp_of c60_0.eq_1) := wp_of c60_0.eq_1
@[go_sem] theorem c60_1_wp : type_of% (wp_of c60_1.eq_1) := wp_of c60_1.eq_1
@[go_sem] theorem c60_2_wp : type_of% (wp_of c60_2.eq_1) := wp_of c60_2.eq_1
@[go_sem] theorem c60_3_wp : type_of% (wp_of c60_3.eq_1) := wp_of c60_3.eq_1
def c60 : AFn := ⟨2, [.t 0], c60_3⟩
set_option maxRecDepth 100000 in
theorem c60_ok : compF Tryd.prog Tryd.f60 = some c60 := by kernel_rfl
theorem a60 {args : List AV} {σ : ASt} {R : AV → ASt → Prop} (hl : args.length ≤ 2) (h : c60_3.wp Tryd.prog (RetQ [.t 0] R) (init args) σ) : ACalls Tryd.prog 60 args σ R := acalls_of Tryd.func60 c60_ok hl h

end Go.A
