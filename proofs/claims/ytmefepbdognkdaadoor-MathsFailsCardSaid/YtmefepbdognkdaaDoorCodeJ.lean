/- The functions, compiled: by program (wip/gencode.py). -/
import Derived.Test.YtmefepbdognkdaaDoorBk
import Derived.Test.YtmefepbdognkdaaDoorProg
import Derived.KernelRfl
namespace Go.A
open Go.Proofs

/-! 16: tabular/value.AsNumber -/
def c16_0 : ACode := .ops [
    ⟨(some 2), none, .q (.mv (.v (.int .i64 0))), []⟩,
    ⟨(some 3), none, .q (.mv (.v (.int .i64 0))), []⟩]
def c16_1 : ACode := .ops [
    ⟨(some 10), none, .q (.mv (.t 0)), []⟩]
def c16_2 : ACode := .ops [
    ⟨(some 11), none, .q (.ta 62 (.int .i64 0) true (.t 10)), []⟩,
    ⟨(some 12), none, .q (.ext 1 (.t 11)), []⟩,
    ⟨(some 13), none, .q (.ext 0 (.t 11)), []⟩]
def c16_3 : ACode := .ops [
    ⟨(some 4), none, .q (.mv (.t 13)), []⟩]
def c16_4 : ACode := .ops [
    ⟨(some 14), none, .q (.mv (.t 4)), []⟩,
    ⟨(some 2), none, .q (.mv (.t 14)), []⟩,
    ⟨(some 3), none, .q (.mv (.v (.int .i64 0))), []⟩]
def c16_5 : ACode := .seq c16_4 .ret
def c16_6 : ACode := .seq c16_3 c16_5
def c16_7 : ACode := .ops [
    ⟨(some 15), none, .q (.ta 66 (.bool false) true (.t 10)), []⟩,
    ⟨(some 16), none, .q (.ext 1 (.t 15)), []⟩,
    ⟨(some 17), none, .q (.ext 0 (.t 15)), []⟩]
def c16_8 : ACode := .ops [
    ⟨(some 5), none, .q (.mv (.t 17)), []⟩]
def c16_9 : ACode := .ops [
    ⟨(some 18), none, .q (.mv (.t 5)), []⟩]
def c16_10 : ACode := .ops [
    ⟨(some 2), none, .q (.mv (.v (.int .i64 10000))), []⟩,
    ⟨(some 3), none, .q (.mv (.v (.int .i64 0))), []⟩]
def c16_11 : ACode := .seq c16_10 .ret
def c16_12 : ACode := .cond (.t 18) c16_11 .skip
def c16_13 : ACode := .seq c16_9 c16_12
def c16_14 : ACode := .ops [
    ⟨(some 2), none, .q (.mv (.v (.int .i64 0))), []⟩,
    ⟨(some 3), none, .q (.mv (.v (.int .i64 0))), []⟩]
def c16_15 : ACode := .seq c16_14 .ret
def c16_16 : ACode := .seq c16_13 c16_15
def c16_17 : ACode := .seq c16_8 c16_16
def c16_18 : ACode := .ops [
    ⟨(some 19), none, .q (.ta 67 (.str []) true (.t 10)), []⟩,
    ⟨(some 20), none, .q (.ext 1 (.t 19)), []⟩,
    ⟨(some 21), none, .q (.ext 0 (.t 19)), []⟩]
def c16_19 : ACode := .ops [
    ⟨(some 6), none, .q (.mv (.t 21)), []⟩]
def c16_20 : ACode := .ops [
    ⟨(some 23), none, .q (.mv (.t 6)), []⟩,
    ⟨(some 24), none, .e (.call 30 [(.t 23)]), []⟩,
    ⟨(some 25), none, .e (.call 29 [(.t 24)]), []⟩,
    ⟨(some 22), none, .q (.mv (.t 25)), []⟩,
    ⟨(some 26), none, .q (.ext 0 (.t 22)), []⟩,
    ⟨(some 27), none, .q (.ext 1 (.t 22)), []⟩,
    ⟨(some 7), none, .q (.mv (.t 26)), []⟩,
    ⟨(some 8), none, .q (.mv (.t 27)), []⟩]
def c16_21 : ACode := .ops [
    ⟨(some 28), none, .q (.mv (.t 8)), []⟩]
def c16_22 : ACode := .ops [
    ⟨(some 29), none, .q (.mv (.t 7)), []⟩,
    ⟨(some 2), none, .q (.mv (.t 29)), []⟩,
    ⟨(some 3), none, .q (.mv (.v (.int .i64 0))), []⟩]
def c16_23 : ACode := .seq c16_22 .ret
def c16_24 : ACode := .cond (.t 28) c16_23 .skip
def c16_25 : ACode := .seq c16_21 c16_24
def c16_26 : ACode := .seq c16_20 c16_25
def c16_27 : ACode := .ops [
    ⟨(some 2), none, .q (.mv (.v (.int .i64 0))), []⟩,
    ⟨(some 3), none, .q (.mv (.v (.int .i64 3))), []⟩]
def c16_28 : ACode := .seq c16_27 .ret
def c16_29 : ACode := .seq c16_26 c16_28
def c16_30 : ACode := .seq c16_19 c16_29
def c16_31 : ACode := .ops [
    ⟨(some 30), none, .q (.ta 39 (.int .i64 0) true (.t 10)), []⟩,
    ⟨(some 31), none, .q (.ext 1 (.t 30)), []⟩,
    ⟨(some 32), none, .q (.ext 0 (.t 30)), []⟩]
def c16_32 : ACode := .ops [
    ⟨(some 9), none, .q (.mv (.t 32)), []⟩]
def c16_33 : ACode := .ops [
    ⟨(some 33), none, .q (.mv (.t 9)), []⟩,
    ⟨(some 2), none, .q (.mv (.v (.int .i64 0))), []⟩,
    ⟨(some 3), none, .q (.mv (.t 33)), []⟩]
def c16_34 : ACode := .seq c16_33 .ret
def c16_35 : ACode := .seq c16_32 c16_34
def c16_36 : ACode := .cond (.t 31) c16_35 .skip
def c16_37 : ACode := .seq c16_31 c16_36
def c16_38 : ACode := .cond (.t 20) c16_30 c16_37
def c16_39 : ACode := .seq c16_18 c16_38
def c16_40 : ACode := .cond (.t 16) c16_17 c16_39
def c16_41 : ACode := .seq c16_7 c16_40
def c16_42 : ACode := .cond (.t 12) c16_6 c16_41
def c16_43 : ACode := .seq c16_2 c16_42
def c16_44 : ACode := .block 0 c16_43
def c16_45 : ACode := .seq c16_1 c16_44
def c16_46 : ACode := .ops [
    ⟨(some 2), none, .q (.mv (.v (.int .i64 0))), []⟩,
    ⟨(some 3), none, .q (.mv (.v (.int .i64 0))), []⟩]
def c16_47 : ACode := .seq c16_46 .ret
def c16_48 : ACode := .seq c16_45 c16_47
def c16_49 : ACode := .seq c16_0 c16_48
@[go_sem] theorem c16_0_wp : type_of% (wp_of c16_0.eq_1) := wp_of c16_0.eq_1
@[go_sem] theorem c16_1_wp : type_of% (wp_of c16_1.eq_1) := wp_of c16_1.eq_1
@[go_sem] theorem c16_2_wp : type_of% (wp_of c16_2.eq_1) := wp_of c16_2.eq_1
@[go_sem] theorem c16_3_wp : type_of% (wp_of c16_3.eq_1) := wp_of c16_3.eq_1
@[go_sem] theorem c16_4_wp : type_of% (wp_of c16_4.eq_1) := wp_of c16_4.eq_1
@[go_sem] theorem c16_5_wp : type_of% (wp_of c16_5.eq_1) := wp_of c16_5.eq_1
@[go_sem] theorem c16_6_wp : type_of% (wp_of c16_6.eq_1) := wp_of c16_6.eq_1
@[go_sem] theorem c16_7_wp : type_of% (wp_of c16_7.eq_1) := wp_of c16_7.eq_1
@[go_sem] theorem c16_8_wp : type_of% (wp_of c16_8.eq_1) := wp_of c16_8.eq_1
@[go_sem] theorem c16_9_wp : type_of% (wp_of c16_9.eq_1) := wp_of c16_9.eq_1
@[go_sem] theorem c16_10_wp : type_of% (wp_of c16_10.eq_1) := wp_of c16_10.eq_1
@[go_sem] theorem c16_11_wp : type_of% (wp_of c16_11.eq_1) := wp_of c16_11.eq_1
@[go_sem] theorem c16_12_wp : type_of% (wp_of c16_12.eq_1) := wp_of c16_12.eq_1
@[go_sem] theorem c16_13_wp : type_of% (wp_of c16_13.eq_1) := wp_of c16_13.eq_1
@[go_sem] theorem c16_14_wp : type_of% (wp_of c16_14.eq_1) := wp_of c16_14.eq_1
@[go_sem] theorem c16_15_wp : type_of% (wp_of c16_15.eq_1) := wp_of c16_15.eq_1
@[go_sem] theorem c16_16_wp : type_of% (wp_of c16_16.eq_1) := wp_of c16_16.eq_1
@[go_sem] theorem c16_17_wp : type_of% (wp_of c16_17.eq_1) := wp_of c16_17.eq_1
@[go_sem] theorem c16_18_wp : type_of% (wp_of c16_18.eq_1) := wp_of c16_18.eq_1
@[go_sem] theorem c16_19_wp : type_of% (wp_of c16_19.eq_1) := wp_of c16_19.eq_1
@[go_sem] theorem c16_20_wp : type_of% (wp_of c16_20.eq_1) := wp_of c16_20.eq_1
@[go_sem] theorem c16_21_wp : type_of% (wp_of c16_21.eq_1) := wp_of c16_21.eq_1
@[go_sem] theorem c16_22_wp : type_of% (wp_of c16_22.eq_1) := wp_of c16_22.eq_1
@[go_sem] theorem c16_23_wp : type_of% (wp_of c16_23.eq_1) := wp_of c16_23.eq_1
@[go_sem] theorem c16_24_wp : type_of% (wp_of c16_24.eq_1) := wp_of c16_24.eq_1
@[go_sem] theorem c16_25_wp : type_of% (wp_of c16_25.eq_1) := wp_of c16_25.eq_1
@[go_sem] theorem c16_26_wp : type_of% (wp_of c16_26.eq_1) := wp_of c16_26.eq_1
@[go_sem] theorem c16_27_wp : type_of% (wp_of c16_27.eq_1) := wp_of c16_27.eq_1
@[go_sem] theorem c16_28_wp : type_of% (wp_of c16_28.eq_1) := wp_of c16_28.eq_1
@[go_sem] theorem c16_29_wp : type_of% (wp_of c16_29.eq_1) := wp_of c16_29.eq_1
@[go_sem] theorem c16_30_wp : type_of% (wp_of c16_30.eq_1) := wp_of c16_30.eq_1
@[go_sem] theorem c16_31_wp : type_of% (wp_of c16_31.eq_1) := wp_of c16_31.eq_1
@[go_sem] theorem c16_32_wp : type_of% (wp_of c16_32.eq_1) := wp_of c16_32.eq_1
@[go_sem] theorem c16_33_wp : type_of% (wp_of c16_33.eq_1) := wp_of c16_33.eq_1
@[go_sem] theorem c16_34_wp : type_of% (wp_of c16_34.eq_1) := wp_of c16_34.eq_1
@[go_sem] theorem c16_35_wp : type_of% (wp_of c16_35.eq_1) := wp_of c16_35.eq_1
@[go_sem] theorem c16_36_wp : type_of% (wp_of c16_36.eq_1) := wp_of c16_36.eq_1
@[go_sem] theorem c16_37_wp : type_of% (wp_of c16_37.eq_1) := wp_of c16_37.eq_1
@[go_sem] theorem c16_38_wp : type_of% (wp_of c16_38.eq_1) := wp_of c16_38.eq_1
@[go_sem] theorem c16_39_wp : type_of% (wp_of c16_39.eq_1) := wp_of c16_39.eq_1
@[go_sem] theorem c16_40_wp : type_of% (wp_of c16_40.eq_1) := wp_of c16_40.eq_1
@[go_sem] theorem c16_41_wp : type_of% (wp_of c16_41.eq_1) := wp_of c16_41.eq_1
@[go_sem] theorem c16_42_wp : type_of% (wp_of c16_42.eq_1) := wp_of c16_42.eq_1
@[go_sem] theorem c16_43_wp : type_of% (wp_of c16_43.eq_1) := wp_of c16_43.eq_1
@[go_sem] theorem c16_44_wp : type_of% (wp_of c16_44.eq_1) := wp_of c16_44.eq_1
@[go_sem] theorem c16_45_wp : type_of% (wp_of c16_45.eq_1) := wp_of c16_45.eq_1
@[go_sem] theorem c16_46_wp : type_of% (wp_of c16_46.eq_1) := wp_of c16_46.eq_1
@[go_sem] theorem c16_47_wp : type_of% (wp_of c16_47.eq_1) := wp_of c16_47.eq_1
@[go_sem] theorem c16_48_wp : type_of% (wp_of c16_48.eq_1) := wp_of c16_48.eq_1
@[go_sem] theorem c16_49_wp : type_of% (wp_of c16_49.eq_1) := wp_of c16_49.eq_1
def c16 : AFn := ⟨34, [.t 2, .t 3], c16_49⟩
set_option maxRecDepth 100000 in
theorem c16_ok : compF Tryd.prog Tryd.f16 = some c16 := by kernel_rfl
theorem a16 {args : List AV} {σ : ASt} {R : AV → ASt → Prop} (hl : args.length ≤ 34) (h : c16_49.wp Tryd.prog (RetQ [.t 2, .t 3] R) (init args) σ) : ACalls Tryd.prog 16 args σ R := acalls_of Tryd.func16 c16_ok hl h

/-! 17: (tabular/value.Arg).Value -/
def c17_0 : ACode := .ops [
    ⟨(some 1), none, .e (.box (.t 0)), []⟩,
    ⟨(some 2), none, .q (.mv (.v .nili)), []⟩]
def c17_1 : ACode := .ops [
    ⟨(some 3), none, .q (.fa 3 (.t 1)), []⟩,
    ⟨(some 4), none, .q (.ld none (.t 3)), []⟩,
    ⟨(some 5), none, .q (.len (.t 4)), []⟩,
    ⟨(some 6), none, .q (.bin .neq (.t 5) (.v (.int .i64 1))), []⟩]
def c17_2 : ACode := .ops [
    ⟨(some 7), none, .q (.mki 39 (.v (.int .i64 3))), []⟩,
    ⟨(some 2), none, .q (.mv (.t 7)), []⟩]
def c17_3 : ACode := .seq c17_2 .ret
def c17_4 : ACode := .cond (.t 6) c17_3 .skip
def c17_5 : ACode := .seq c17_1 c17_4
def c17_6 : ACode := .ops [
    ⟨(some 8), none, .q (.fa 3 (.t 1)), []⟩,
    ⟨(some 9), none, .q (.ld none (.t 8)), []⟩,
    ⟨(some 10), none, .q (.ia 1 (.t 9) (.v (.int .i64 0))), []⟩,
    ⟨(some 11), none, .q (.ld none (.t 10)), []⟩,
    ⟨(some 2), none, .q (.mv (.t 11)), []⟩]
def c17_7 : ACode := .seq c17_6 .ret
def c17_8 : ACode := .seq c17_5 c17_7
def c17_9 : ACode := .seq c17_0 c17_8
@[go_sem] theorem c17_0_wp : type_of% (wp_of c17_0.eq_1) := wp_of c17_0.eq_1
@[go_sem] theorem c17_1_wp : type_of% (wp_of c17_1.eq_1) := wp_of c17_1.eq_1
@[go_sem] theorem c17_2_wp : type_of% (wp_of c17_2.eq_1) := wp_of c17_2.eq_1
@[go_sem] theorem c17_3_wp : type_of% (wp_of c17_3.eq_1) := wp_of c17_3.eq_1
@[go_sem] theorem c17_4_wp : type_of% (wp_of c17_4.eq_1) := wp_of c17_4.eq_1
@[go_sem] theorem c17_5_wp : type_of% (wp_of c17_5.eq_1) := wp_of c17_5.eq_1
@[go_sem] theorem c17_6_wp : type_of% (wp_of c17_6.eq_1) := wp_of c17_6.eq_1
@[go_sem] theorem c17_7_wp : type_of% (wp_of c17_7.eq_1) := wp_of c17_7.eq_1
@[go_sem] theorem c17_8_wp : type_of% (wp_of c17_8.eq_1) := wp_of c17_8.eq_1
@[go_sem] theorem c17_9_wp : type_of% (wp_of c17_9.eq_1) := wp_of c17_9.eq_1
def c17 : AFn := ⟨12, [.t 2], c17_9⟩
set_option maxRecDepth 100000 in
theorem c17_ok : compF Tryd.prog Tryd.f17 = some c17 := by kernel_rfl
theorem a17 {args : List AV} {σ : ASt} {R : AV → ASt → Prop} (hl : args.length ≤ 12) (h : c17_9.wp Tryd.prog (RetQ [.t 2] R) (init args) σ) : ACalls Tryd.prog 17 args σ R := acalls_of Tryd.func17 c17_ok hl h

/-! 18: tabular/value.One -/
def c18_0 : ACode := .ops [
    ⟨(some 2), none, .e (.alloc [(.int .i64 0), (.int .i64 0), (.bool false), (.sl .full [])]), []⟩]
def c18_1 : ACode := .ops [
    ⟨(some 3), none, .q (.mv (.t 0)), []⟩,
    ⟨(some 4), none, .q (.bsl 1 [(.t 3)]), []⟩,
    ⟨(some 5), none, .q (.build [(.int .i64 0), (.int .i64 0), (.bool false), (.sl .full [])] [(0, 1, (.v (.int .i64 1))), (1, 1, (.v (.int .i64 1))), (3, 1, (.t 4))]), []⟩,
    ⟨none, none, .e (.store 4 (.t 2) (.t 5)), []⟩]
def c18_2 : ACode := .seq c18_1 .ret
def c18_3 : ACode := .seq c18_0 c18_2
@[go_sem] theorem c18_0_wp : type_of% (wp_of c18_0.eq_1) := wp_of c18_0.eq_1
@[go_sem] theorem c18_1_wp : type_of% (wp_of c18_1.eq_1) := wp_of c18_1.eq_1
@[go_sem] theorem c18_2_wp : type_of% (wp_of c18_2.eq_1) := wp_of c18_2.eq_1
@[go_sem] theorem c18_3_wp : type_of% (wp_of c18_3.eq_1) := wp_of c18_3.eq_1
def c18 : AFn := ⟨6, [.c 2 (some 4)], c18_3⟩
set_option maxRecDepth 100000 in
theorem c18_ok : compF Tryd.prog Tryd.f18 = some c18 := by kernel_rfl
theorem a18 {args : List AV} {σ : ASt} {R : AV → ASt → Prop} (hl : args.length ≤ 6) (h : c18_3.wp Tryd.prog (RetQ [.c 2 (some 4)] R) (init args) σ) : ACalls Tryd.prog 18 args σ R := acalls_of Tryd.func18 c18_ok hl h

/-! 19: tabular/value.Failed -/
def c19_0 : ACode := .ops [
    ⟨(some 2), none, .q (.mv (.v (.int .i64 0))), []⟩,
    ⟨(some 3), none, .q (.mv (.v (.bool false))), []⟩]
def c19_1 : ACode := .ops [
    ⟨(some 7), none, .q (.mv (.t 0)), []⟩,
    ⟨(some 8), none, .q (.ta 39 (.int .i64 0) true (.t 7)), []⟩,
    ⟨(some 6), none, .q (.mv (.t 8)), []⟩,
    ⟨(some 9), none, .q (.ext 0 (.t 6)), []⟩,
    ⟨(some 10), none, .q (.ext 1 (.t 6)), []⟩,
    ⟨(some 4), none, .q (.mv (.t 9)), []⟩,
    ⟨(some 5), none, .q (.mv (.t 10)), []⟩]
def c19_2 : ACode := .ops [
    ⟨(some 11), none, .q (.mv (.t 4)), []⟩,
    ⟨(some 12), none, .q (.mv (.t 5)), []⟩,
    ⟨(some 2), none, .q (.mv (.t 11)), []⟩,
    ⟨(some 3), none, .q (.mv (.t 12)), []⟩]
def c19_3 : ACode := .seq c19_2 .ret
def c19_4 : ACode := .seq c19_1 c19_3
def c19_5 : ACode := .seq c19_0 c19_4
@[go_sem] theorem c19_0_wp : type_of% (wp_of c19_0.eq_1) := wp_of c19_0.eq_1
@[go_sem] theorem c19_1_wp : type_of% (wp_of c19_1.eq_1) := wp_of c19_1.eq_1
@[go_sem] theorem c19_2_wp : type_of% (wp_of c19_2.eq_1) := wp_of c19_2.eq_1
@[go_sem] theorem c19_3_wp : type_of% (wp_of c19_3.eq_1) := wp_of c19_3.eq_1
@[go_sem] theorem c19_4_wp : type_of% (wp_of c19_4.eq_1) := wp_of c19_4.eq_1
@[go_sem] theorem c19_5_wp : type_of% (wp_of c19_5.eq_1) := wp_of c19_5.eq_1
def c19 : AFn := ⟨13, [.t 2, .t 3], c19_5⟩
set_option maxRecDepth 100000 in
theorem c19_ok : compF Tryd.prog Tryd.f19 = some c19 := by kernel_rfl
theorem a19 {args : List AV} {σ : ASt} {R : AV → ASt → Prop} (hl : args.length ≤ 13) (h : c19_5.wp Tryd.prog (RetQ [.t 2, .t 3] R) (init args) σ) : ACalls Tryd.prog 19 args σ R := acalls_of Tryd.func19 c19_ok hl h

/-! 20: tabular/maths.Call -/
def c20_0 : ACode := .ops [
    ⟨(some 4), none, .q (.mv (.v .nili)), []⟩]
def c20_1 : ACode := .ops [
    ⟨(some 11), none, .q (.mv (.t 0)), []⟩,
    ⟨(some 12), none, .e (.call 31 [(.t 11)]), []⟩,
    ⟨(some 10), none, .q (.mv (.t 12)), []⟩,
    ⟨(some 13), none, .q (.ext 0 (.t 10)), []⟩,
    ⟨(some 14), none, .q (.ext 1 (.t 10)), []⟩,
    ⟨(some 5), none, .q (.mv (.t 13)), []⟩,
    ⟨(some 6), none, .q (.mv (.t 14)), []⟩]
def c20_2 : ACode := .ops [
    ⟨(some 15), none, .q (.mv (.t 6)), []⟩,
    ⟨(some 16), none, .q (.bin .eql (.t 15) (.v (.int .i64 0))), []⟩]
def c20_3 : ACode := .ops [
    ⟨(some 17), none, .q (.mki 39 (.v (.int .i64 6))), []⟩,
    ⟨(some 4), none, .q (.mv (.t 17)), []⟩]
def c20_4 : ACode := .seq c20_3 .ret
def c20_5 : ACode := .cond (.t 16) c20_4 .skip
def c20_6 : ACode := .seq c20_2 c20_5
def c20_7 : ACode := .ops [
    ⟨(some 18), none, .q (.mv (.t 1)), []⟩,
    ⟨(some 19), none, .q (.len (.t 18)), []⟩,
    ⟨(some 20), none, .q (.mv (.t 5)), []⟩,
    ⟨(some 21), none, .q (.bin .lss (.t 19) (.t 20)), []⟩,
    ⟨(some 22), none, .q (.mv (.t 21)), []⟩,
    ⟨(some 23), (some (22, false)), .q (.mv (.t 1)), []⟩,
    ⟨(some 24), (some (22, false)), .q (.len (.t 23)), []⟩,
    ⟨(some 25), (some (22, false)), .q (.mv (.t 6)), []⟩,
    ⟨(some 26), (some (22, false)), .q (.bin .gtr (.t 24) (.t 25)), []⟩,
    ⟨(some 27), none, .q (.pick (.t 22) (.v (.bool true)) (.t 26)), []⟩]
def c20_8 : ACode := .ops [
    ⟨(some 28), none, .q (.mki 39 (.v (.int .i64 3))), []⟩,
    ⟨(some 4), none, .q (.mv (.t 28)), []⟩]
def c20_9 : ACode := .seq c20_8 .ret
def c20_10 : ACode := .cond (.t 27) c20_9 .skip
def c20_11 : ACode := .seq c20_7 c20_10
def c20_12 : ACode := .ops [
    ⟨(some 30), none, .q (.mv (.t 1)), []⟩,
    ⟨(some 31), none, .e (.call 32 [(.t 30)]), []⟩,
    ⟨(some 29), none, .q (.mv (.t 31)), []⟩,
    ⟨(some 32), none, .q (.ext 0 (.t 29)), []⟩,
    ⟨(some 33), none, .q (.ext 1 (.t 29)), []⟩,
    ⟨(some 7), none, .q (.mv (.t 32)), []⟩,
    ⟨(some 8), none, .q (.mv (.t 33)), []⟩]
def c20_13 : ACode := .ops [
    ⟨(some 34), none, .q (.mv (.t 8)), []⟩,
    ⟨(some 35), none, .q (.bin .neq (.t 34) (.v (.int .i64 0))), []⟩]
def c20_14 : ACode := .ops [
    ⟨(some 36), none, .q (.mv (.t 8)), []⟩,
    ⟨(some 37), none, .q (.mki 39 (.t 36)), []⟩,
    ⟨(some 4), none, .q (.mv (.t 37)), []⟩]
def c20_15 : ACode := .seq c20_14 .ret
def c20_16 : ACode := .cond (.t 35) c20_15 .skip
def c20_17 : ACode := .seq c20_13 c20_16
def c20_18 : ACode := .ops [
    ⟨(some 38), none, .q (.mv (.t 7)), []⟩,
    ⟨(some 39), none, .q (.ia 1 (.t 38) (.v (.int .i64 0))), []⟩,
    ⟨(some 40), none, .q (.ld none (.t 39)), []⟩,
    ⟨(some 9), none, .q (.mv (.t 40)), []⟩]
def c20_19 : ACode := .ops [
    ⟨(some 41), none, .q (.mv (.t 0)), []⟩]
def c20_20 : ACode := .ops [
    ⟨(some 43), none, .q (.bin .eql (.t 41) (.v (.str [65, 66, 83]))), []⟩,
    ⟨(some 42), none, .q (.mv (.t 43)), []⟩]
def c20_21 : ACode := .ops [
    ⟨(some 44), none, .q (.mv (.t 9)), []⟩,
    ⟨(some 45), none, .e (.call 11 [(.t 44)]), []⟩,
    ⟨(some 46), none, .q (.mki 62 (.t 45)), []⟩,
    ⟨(some 4), none, .q (.mv (.t 46)), []⟩]
def c20_22 : ACode := .seq c20_21 .ret
def c20_23 : ACode := .ops [
    ⟨(some 48), none, .q (.bin .eql (.t 41) (.v (.str [83, 73, 71, 78]))), []⟩,
    ⟨(some 47), none, .q (.mv (.t 48)), []⟩]
def c20_24 : ACode := .ops [
    ⟨(some 49), none, .q (.mv (.t 9)), []⟩,
    ⟨(some 50), none, .e (.call 33 [(.t 49)]), []⟩,
    ⟨(some 51), none, .q (.bin .mul (.t 50) (.v (.int .i64 10000))), []⟩,
    ⟨(some 52), none, .q (.mki 62 (.t 51)), []⟩,
    ⟨(some 4), none, .q (.mv (.t 52)), []⟩]
def c20_25 : ACode := .seq c20_24 .ret
def c20_26 : ACode := .ops [
    ⟨(some 54), none, .q (.bin .eql (.t 41) (.v (.str [73, 78, 84]))), []⟩,
    ⟨(some 53), none, .q (.mv (.t 54)), []⟩]
def c20_27 : ACode := .ops [
    ⟨(some 55), none, .q (.mv (.t 9)), []⟩,
    ⟨(some 56), none, .e (.call 35 [(.t 55), (.v (.int .i64 10000))]), []⟩,
    ⟨(some 57), none, .q (.ext 0 (.t 56)), []⟩,
    ⟨(some 58), none, .q (.ext 1 (.t 56)), []⟩,
    ⟨(some 59), none, .e (.call 34 [(.t 57), (.t 58)]), []⟩,
    ⟨(some 4), none, .q (.mv (.t 59)), []⟩]
def c20_28 : ACode := .seq c20_27 .ret
def c20_29 : ACode := .ops [
    ⟨(some 61), none, .q (.bin .eql (.t 41) (.v (.str [84, 82, 85, 78, 67]))), []⟩,
    ⟨(some 60), none, .q (.mv (.t 61)), []⟩]
def c20_30 : ACode := .ops [
    ⟨(some 62), none, .q (.bin .eql (.t 41) (.v (.str [82, 79, 85, 78, 68, 68, 79, 87, 78]))), []⟩,
    ⟨(some 60), none, .q (.mv (.t 62)), []⟩]
def c20_31 : ACode := .cond (.t 60) .skip c20_30
def c20_32 : ACode := .seq c20_29 c20_31
def c20_33 : ACode := .ops [
    ⟨(some 63), none, .q (.mv (.t 9)), []⟩,
    ⟨(some 64), none, .q (.mv (.t 7)), []⟩,
    ⟨(some 65), none, .e (.call 37 [(.t 64)]), []⟩,
    ⟨(some 66), none, .e (.call 36 [(.t 63), (.t 65)]), []⟩,
    ⟨(some 67), none, .q (.mki 62 (.t 66)), []⟩,
    ⟨(some 4), none, .q (.mv (.t 67)), []⟩]
def c20_34 : ACode := .seq c20_33 .ret
def c20_35 : ACode := .ops [
    ⟨(some 69), none, .q (.bin .eql (.t 41) (.v (.str [82, 79, 85, 78, 68]))), []⟩,
    ⟨(some 68), none, .q (.mv (.t 69)), []⟩]
def c20_36 : ACode := .ops [
    ⟨(some 70), none, .q (.mv (.t 9)), []⟩,
    ⟨(some 71), none, .q (.mv (.t 7)), []⟩,
    ⟨(some 72), none, .e (.call 37 [(.t 71)]), []⟩,
    ⟨(some 73), none, .e (.call 38 [(.t 70), (.t 72)]), []⟩,
    ⟨(some 74), none, .q (.ext 0 (.t 73)), []⟩,
    ⟨(some 75), none, .q (.ext 1 (.t 73)), []⟩,
    ⟨(some 76), none, .e (.call 34 [(.t 74), (.t 75)]), []⟩,
    ⟨(some 4), none, .q (.mv (.t 76)), []⟩]
def c20_37 : ACode := .seq c20_36 .ret
def c20_38 : ACode := .ops [
    ⟨(some 78), none, .q (.bin .eql (.t 41) (.v (.str [82, 79, 85, 78, 68, 85, 80]))), []⟩,
    ⟨(some 77), none, .q (.mv (.t 78)), []⟩]
def c20_39 : ACode := .ops [
    ⟨(some 79), none, .q (.mv (.t 9)), []⟩,
    ⟨(some 80), none, .q (.mv (.t 7)), []⟩,
    ⟨(some 81), none, .e (.call 37 [(.t 80)]), []⟩,
    ⟨(some 82), none, .e (.call 39 [(.t 79), (.t 81)]), []⟩,
    ⟨(some 4), none, .q (.mv (.t 82)), []⟩]
def c20_40 : ACode := .seq c20_39 .ret
def c20_41 : ACode := .ops [
    ⟨(some 84), none, .q (.bin .eql (.t 41) (.v (.str [70, 76, 79, 79, 82]))), []⟩,
    ⟨(some 83), none, .q (.mv (.t 84)), []⟩]
def c20_42 : ACode := .ops [
    ⟨(some 85), none, .q (.bin .eql (.t 41) (.v (.str [67, 69, 73, 76, 73, 78, 71]))), []⟩,
    ⟨(some 83), none, .q (.mv (.t 85)), []⟩]
def c20_43 : ACode := .cond (.t 83) .skip c20_42
def c20_44 : ACode := .seq c20_41 c20_43
def c20_45 : ACode := .ops [
    ⟨(some 86), none, .q (.mv (.t 9)), []⟩,
    ⟨(some 87), none, .q (.mv (.t 7)), []⟩,
    ⟨(some 88), none, .e (.call 41 [(.t 87), (.v (.int .i64 10000))]), []⟩,
    ⟨(some 89), none, .q (.mv (.t 0)), []⟩,
    ⟨(some 90), none, .q (.bin .eql (.t 89) (.v (.str [67, 69, 73, 76, 73, 78, 71]))), []⟩,
    ⟨(some 91), none, .e (.call 40 [(.t 86), (.t 88), (.t 90)]), []⟩,
    ⟨(some 4), none, .q (.mv (.t 91)), []⟩]
def c20_46 : ACode := .seq c20_45 .ret
def c20_47 : ACode := .ops [
    ⟨(some 93), none, .q (.bin .eql (.t 41) (.v (.str [77, 82, 79, 85, 78, 68]))), []⟩,
    ⟨(some 92), none, .q (.mv (.t 93)), []⟩]
def c20_48 : ACode := .ops [
    ⟨(some 94), none, .q (.mv (.t 9)), []⟩,
    ⟨(some 95), none, .q (.mv (.t 7)), []⟩,
    ⟨(some 96), none, .q (.ia 1 (.t 95) (.v (.int .i64 1))), []⟩,
    ⟨(some 97), none, .q (.ld none (.t 96)), []⟩,
    ⟨(some 98), none, .e (.call 42 [(.t 94), (.t 97)]), []⟩,
    ⟨(some 4), none, .q (.mv (.t 98)), []⟩]
def c20_49 : ACode := .seq c20_48 .ret
def c20_50 : ACode := .ops [
    ⟨(some 100), none, .q (.bin .eql (.t 41) (.v (.str [77, 79, 68]))), []⟩,
    ⟨(some 99), none, .q (.mv (.t 100)), []⟩]
def c20_51 : ACode := .ops [
    ⟨(some 101), none, .q (.mv (.t 7)), []⟩,
    ⟨(some 102), none, .q (.ia 1 (.t 101) (.v (.int .i64 1))), []⟩,
    ⟨(some 103), none, .q (.ld none (.t 102)), []⟩,
    ⟨(some 104), none, .q (.bin .eql (.t 103) (.v (.int .i64 0))), []⟩]
def c20_52 : ACode := .ops [
    ⟨(some 105), none, .q (.mki 39 (.v (.int .i64 1))), []⟩,
    ⟨(some 4), none, .q (.mv (.t 105)), []⟩]
def c20_53 : ACode := .seq c20_52 .ret
def c20_54 : ACode := .cond (.t 104) c20_53 .skip
def c20_55 : ACode := .seq c20_51 c20_54
def c20_56 : ACode := .ops [
    ⟨(some 106), none, .q (.mv (.t 9)), []⟩,
    ⟨(some 107), none, .q (.mv (.t 7)), []⟩,
    ⟨(some 108), none, .q (.ia 1 (.t 107) (.v (.int .i64 1))), []⟩,
    ⟨(some 109), none, .q (.ld none (.t 108)), []⟩,
    ⟨(some 110), none, .e (.call 43 [(.t 106), (.t 109)]), []⟩,
    ⟨(some 111), none, .q (.ext 0 (.t 110)), []⟩,
    ⟨(some 112), none, .q (.ext 1 (.t 110)), []⟩,
    ⟨(some 113), none, .e (.call 34 [(.t 111), (.t 112)]), []⟩,
    ⟨(some 4), none, .q (.mv (.t 113)), []⟩]
def c20_57 : ACode := .seq c20_56 .ret
def c20_58 : ACode := .seq c20_55 c20_57
def c20_59 : ACode := .ops [
    ⟨(some 115), none, .q (.bin .eql (.t 41) (.v (.str [81, 85, 79, 84, 73, 69, 78, 84]))), []⟩,
    ⟨(some 114), none, .q (.mv (.t 115)), []⟩]
def c20_60 : ACode := .ops [
    ⟨(some 116), none, .q (.mv (.t 9)), []⟩,
    ⟨(some 117), none, .q (.mv (.t 7)), []⟩,
    ⟨(some 118), none, .q (.ia 1 (.t 117) (.v (.int .i64 1))), []⟩,
    ⟨(some 119), none, .q (.ld none (.t 118)), []⟩,
    ⟨(some 120), none, .e (.call 44 [(.t 116), (.t 119)]), []⟩,
    ⟨(some 4), none, .q (.mv (.t 120)), []⟩]
def c20_61 : ACode := .seq c20_60 .ret
def c20_62 : ACode := .ops [
    ⟨(some 122), none, .q (.bin .eql (.t 41) (.v (.str [80, 79, 87, 69, 82]))), []⟩,
    ⟨(some 121), none, .q (.mv (.t 122)), []⟩]
def c20_63 : ACode := .ops [
    ⟨(some 123), none, .q (.mv (.t 9)), []⟩,
    ⟨(some 124), none, .q (.mv (.t 7)), []⟩,
    ⟨(some 125), none, .q (.ia 1 (.t 124) (.v (.int .i64 1))), []⟩,
    ⟨(some 126), none, .q (.ld none (.t 125)), []⟩,
    ⟨(some 127), none, .e (.call 45 [(.t 123), (.t 126)]), []⟩,
    ⟨(some 4), none, .q (.mv (.t 127)), []⟩]
def c20_64 : ACode := .seq c20_63 .ret
def c20_65 : ACode := .ops [
    ⟨(some 129), none, .q (.bin .eql (.t 41) (.v (.str [83, 81, 82, 84]))), []⟩,
    ⟨(some 128), none, .q (.mv (.t 129)), []⟩]
def c20_66 : ACode := .ops [
    ⟨(some 130), none, .q (.mv (.t 9)), []⟩,
    ⟨(some 131), none, .e (.call 46 [(.t 130)]), []⟩,
    ⟨(some 132), none, .q (.ext 0 (.t 131)), []⟩,
    ⟨(some 133), none, .q (.ext 1 (.t 131)), []⟩,
    ⟨(some 134), none, .e (.call 34 [(.t 132), (.t 133)]), []⟩,
    ⟨(some 4), none, .q (.mv (.t 134)), []⟩]
def c20_67 : ACode := .seq c20_66 .ret
def c20_68 : ACode := .ops [
    ⟨(some 136), none, .q (.bin .eql (.t 41) (.v (.str [70, 65, 67, 84]))), []⟩,
    ⟨(some 135), none, .q (.mv (.t 136)), []⟩]
def c20_69 : ACode := .ops [
    ⟨(some 137), none, .q (.mv (.t 9)), []⟩,
    ⟨(some 138), none, .e (.call 47 [(.t 137)]), []⟩,
    ⟨(some 4), none, .q (.mv (.t 138)), []⟩]
def c20_70 : ACode := .seq c20_69 .ret
def c20_71 : ACode := .ops [
    ⟨(some 140), none, .q (.bin .eql (.t 41) (.v (.str [69, 86, 69, 78]))), []⟩,
    ⟨(some 139), none, .q (.mv (.t 140)), []⟩]
def c20_72 : ACode := .ops [
    ⟨(some 141), none, .q (.mv (.t 9)), []⟩,
    ⟨(some 142), none, .e (.call 48 [(.t 141), (.v (.int .i64 0))]), []⟩,
    ⟨(some 4), none, .q (.mv (.t 142)), []⟩]
def c20_73 : ACode := .seq c20_72 .ret
def c20_74 : ACode := .ops [
    ⟨(some 144), none, .q (.bin .eql (.t 41) (.v (.str [79, 68, 68]))), []⟩,
    ⟨(some 143), none, .q (.mv (.t 144)), []⟩]
def c20_75 : ACode := .ops [
    ⟨(some 145), none, .q (.mv (.t 9)), []⟩,
    ⟨(some 146), none, .e (.call 48 [(.t 145), (.v (.int .i64 1))]), []⟩,
    ⟨(some 4), none, .q (.mv (.t 146)), []⟩]
def c20_76 : ACode := .seq c20_75 .ret
def c20_77 : ACode := .ops [
    ⟨(some 148), none, .q (.bin .eql (.t 41) (.v (.str [67, 76, 65, 77, 80]))), []⟩,
    ⟨(some 147), none, .q (.mv (.t 148)), []⟩]
def c20_78 : ACode := .ops [
    ⟨(some 149), none, .q (.mv (.t 7)), []⟩,
    ⟨(some 150), none, .q (.ia 1 (.t 149) (.v (.int .i64 1))), []⟩,
    ⟨(some 151), none, .q (.ld none (.t 150)), []⟩,
    ⟨(some 152), none, .q (.mv (.t 7)), []⟩,
    ⟨(some 153), none, .q (.ia 1 (.t 152) (.v (.int .i64 2))), []⟩,
    ⟨(some 154), none, .q (.ld none (.t 153)), []⟩,
    ⟨(some 155), none, .q (.bin .gtr (.t 151) (.t 154)), []⟩]
def c20_79 : ACode := .ops [
    ⟨(some 156), none, .q (.mki 39 (.v (.int .i64 2))), []⟩,
    ⟨(some 4), none, .q (.mv (.t 156)), []⟩]
def c20_80 : ACode := .seq c20_79 .ret
def c20_81 : ACode := .cond (.t 155) c20_80 .skip
def c20_82 : ACode := .seq c20_78 c20_81
def c20_83 : ACode := .ops [
    ⟨(some 157), none, .q (.mv (.t 9)), []⟩,
    ⟨(some 158), none, .q (.mv (.t 7)), []⟩,
    ⟨(some 159), none, .q (.ia 1 (.t 158) (.v (.int .i64 2))), []⟩,
    ⟨(some 160), none, .q (.ld none (.t 159)), []⟩,
    ⟨(some 161), none, .q (.mnx false (.t 157) (.t 160)), []⟩,
    ⟨(some 162), none, .q (.mv (.t 7)), []⟩,
    ⟨(some 163), none, .q (.ia 1 (.t 162) (.v (.int .i64 1))), []⟩,
    ⟨(some 164), none, .q (.ld none (.t 163)), []⟩,
    ⟨(some 165), none, .q (.mnx true (.t 161) (.t 164)), []⟩,
    ⟨(some 166), none, .q (.mki 62 (.t 165)), []⟩,
    ⟨(some 4), none, .q (.mv (.t 166)), []⟩]
def c20_84 : ACode := .seq c20_83 .ret
def c20_85 : ACode := .seq c20_82 c20_84
def c20_86 : ACode := .cond (.t 147) c20_85 .skip
def c20_87 : ACode := .seq c20_77 c20_86
def c20_88 : ACode := .cond (.t 143) c20_76 c20_87
def c20_89 : ACode := .seq c20_74 c20_88
def c20_90 : ACode := .cond (.t 139) c20_73 c20_89
def c20_91 : ACode := .seq c20_71 c20_90
def c20_92 : ACode := .cond (.t 135) c20_70 c20_91
def c20_93 : ACode := .seq c20_68 c20_92
def c20_94 : ACode := .cond (.t 128) c20_67 c20_93
def c20_95 : ACode := .seq c20_65 c20_94
def c20_96 : ACode := .cond (.t 121) c20_64 c20_95
def c20_97 : ACode := .seq c20_62 c20_96
def c20_98 : ACode := .cond (.t 114) c20_61 c20_97
def c20_99 : ACode := .seq c20_59 c20_98
def c20_100 : ACode := .cond (.t 99) c20_58 c20_99
def c20_101 : ACode := .seq c20_50 c20_100
def c20_102 : ACode := .cond (.t 92) c20_49 c20_101
def c20_103 : ACode := .seq c20_47 c20_102
def c20_104 : ACode := .cond (.t 83) c20_46 c20_103
def c20_105 : ACode := .seq c20_44 c20_104
def c20_106 : ACode := .cond (.t 77) c20_40 c20_105
def c20_107 : ACode := .seq c20_38 c20_106
def c20_108 : ACode := .cond (.t 68) c20_37 c20_107
def c20_109 : ACode := .seq c20_35 c20_108
def c20_110 : ACode := .cond (.t 60) c20_34 c20_109
def c20_111 : ACode := .seq c20_32 c20_110
def c20_112 : ACode := .cond (.t 53) c20_28 c20_111
def c20_113 : ACode := .seq c20_26 c20_112
def c20_114 : ACode := .cond (.t 47) c20_25 c20_113
def c20_115 : ACode := .seq c20_23 c20_114
def c20_116 : ACode := .cond (.t 42) c20_22 c20_115
def c20_117 : ACode := .seq c20_20 c20_116
def c20_118 : ACode := .block 0 c20_117
def c20_119 : ACode := .seq c20_19 c20_118
def c20_120 : ACode := .ops [
    ⟨(some 167), none, .q (.mv (.t 0)), []⟩,
    ⟨(some 168), none, .q (.mv (.t 7)), []⟩,
    ⟨(some 169), none, .e (.call 49 [(.t 167), (.t 168)]), []⟩,
    ⟨(some 4), none, .q (.mv (.t 169)), []⟩]
def c20_121 : ACode := .seq c20_120 .ret
def c20_122 : ACode := .seq c20_119 c20_121
def c20_123 : ACode := .seq c20_18 c20_122
def c20_124 : ACode := .seq c20_17 c20_123
def c20_125 : ACode := .seq c20_12 c20_124
def c20_126 : ACode := .seq c20_11 c20_125
def c20_127 : ACode := .seq c20_6 c20_126
def c20_128 : ACode := .seq c20_1 c20_127
def c20_129 : ACode := .seq c20_0 c20_128
@[go_sem] theorem c20_0_wp : type_of% (wp_of c20_0.eq_1) := wp_of c20_0.eq_1
@[go_sem] theorem c20_1_wp : type_of% (wp_of c20_1.eq_1) := wp_of c20_1.eq_1
@[go_sem] theorem c20_2_wp : type_of% (wp_of c20_2.eq_1) := wp_of c20_2.eq_1
@[go_sem] theorem c20_3_wp : type_of% (wp_of c20_3.eq_1) := wp_of c20_3.eq_1
@[go_sem] theorem c20_4_wp : type_of% (wp_of c20_4.eq_1) := wp_of c20_4.eq_1
@[go_sem] theorem c20_5_wp : type_of% (wp_of c20_5.eq_1) := wp_of c20_5.eq_1
@[go_sem] theorem c20_6_wp : type_of% (wp_of c20_6.eq_1) := wp_of c20_6.eq_1
@[go_sem] theorem c20_7_wp : type_of% (wp_of c20_7.eq_1) := wp_of c20_7.eq_1
@[go_sem] theorem c20_8_wp : type_of% (wp_of c20_8.eq_1) := wp_of c20_8.eq_1
@[go_sem] theorem c20_9_wp : type_of% (wp_of c20_9.eq_1) := wp_of c20_9.eq_1
@[go_sem] theorem c20_10_wp : type_of% (wp_of c20_10.eq_1) := wp_of c20_10.eq_1
@[go_sem] theorem c20_11_wp : type_of% (wp_of c20_11.eq_1) := wp_of c20_11.eq_1
@[go_sem] theorem c20_12_wp : type_of% (wp_of c20_12.eq_1) := wp_of c20_12.eq_1
@[go_sem] theorem c20_13_wp : type_of% (wp_of c20_13.eq_1) := wp_of c20_13.eq_1
@[go_sem] theorem c20_14_wp : type_of% (wp_of c20_14.eq_1) := wp_of c20_14.eq_1
@[go_sem] theorem c20_15_wp : type_of% (wp_of c20_15.eq_1) := wp_of c20_15.eq_1
@[go_sem] theorem c20_16_wp : type_of% (wp_of c20_16.eq_1) := wp_of c20_16.eq_1
@[go_sem] theorem c20_17_wp : type_of% (wp_of c20_17.eq_1) := wp_of c20_17.eq_1
@[go_sem] theorem c20_18_wp : type_of% (wp_of c20_18.eq_1) := wp_of c20_18.eq_1
@[go_sem] theorem c20_19_wp : type_of% (wp_of c20_19.eq_1) := wp_of c20_19.eq_1
@[go_sem] theorem c20_20_wp : type_of% (wp_of c20_20.eq_1) := wp_of c20_20.eq_1
@[go_sem] theorem c20_21_wp : type_of% (wp_of c20_21.eq_1) := wp_of c20_21.eq_1
@[go_sem] theorem c20_22_wp : type_of% (wp_of c20_22.eq_1) := wp_of c20_22.eq_1
@[go_sem] theorem c20_23_wp : type_of% (wp_of c20_23.eq_1) := wp_of c20_23.eq_1
@[go_sem] theorem c20_24_wp : type_of% (wp_of c20_24.eq_1) := wp_of c20_24.eq_1
@[go_sem] theorem c20_25_wp : type_of% (wp_of c20_25.eq_1) := wp_of c20_25.eq_1
@[go_sem] theorem c20_26_wp : type_of% (wp_of c20_26.eq_1) := wp_of c20_26.eq_1
@[go_sem] theorem c20_27_wp : type_of% (wp_of c20_27.eq_1) := wp_of c20_27.eq_1
@[go_sem] theorem c20_28_wp : type_of% (wp_of c20_28.eq_1) := wp_of c20_28.eq_1
@[go_sem] theorem c20_29_wp : type_of% (wp_of c20_29.eq_1) := wp_of c20_29.eq_1
@[go_sem] theorem c20_30_wp : type_of% (wp_of c20_30.eq_1) := wp_of c20_30.eq_1
@[go_sem] theorem c20_31_wp : type_of% (wp_of c20_31.eq_1) := wp_of c20_31.eq_1
@[go_sem] theorem c20_32_wp : type_of% (wp_of c20_32.eq_1) := wp_of c20_32.eq_1
@[go_sem] theorem c20_33_wp : type_of% (wp_of c20_33.eq_1) := wp_of c20_33.eq_1
@[go_sem] theorem c20_34_wp : type_of% (wp_of c20_34.eq_1) := wp_of c20_34.eq_1
@[go_sem] theorem c20_35_wp : type_of% (wp_of c20_35.eq_1) := wp_of c20_35.eq_1
@[go_sem] theorem c20_36_wp : type_of% (wp_of c20_36.eq_1) := wp_of c20_36.eq_1
@[go_sem] theorem c20_37_wp : type_of% (wp_of c20_37.eq_1) := wp_of c20_37.eq_1
@[go_sem] theorem c20_38_wp : type_of% (wp_of c20_38.eq_1) := wp_of c20_38.eq_1
@[go_sem] theorem c20_39_wp : type_of% (wp_of c20_39.eq_1) := wp_of c20_39.eq_1
@[go_sem] theorem c20_40_wp : type_of% (wp_of c20_40.eq_1) := wp_of c20_40.eq_1
@[go_sem] theorem c20_41_wp : type_of% (wp_of c20_41.eq_1) := wp_of c20_41.eq_1
@[go_sem] theorem c20_42_wp : type_of% (wp_of c20_42.eq_1) := wp_of c20_42.eq_1
@[go_sem] theorem c20_43_wp : type_of% (wp_of c20_43.eq_1) := wp_of c20_43.eq_1
@[go_sem] theorem c20_44_wp : type_of% (wp_of c20_44.eq_1) := wp_of c20_44.eq_1
@[go_sem] theorem c20_45_wp : type_of% (wp_of c20_45.eq_1) := wp_of c20_45.eq_1
@[go_sem] theorem c20_46_wp : type_of% (wp_of c20_46.eq_1) := wp_of c20_46.eq_1
@[go_sem] theorem c20_47_wp : type_of% (wp_of c20_47.eq_1) := wp_of c20_47.eq_1
@[go_sem] theorem c20_48_wp : type_of% (wp_of c20_48.eq_1) := wp_of c20_48.eq_1
@[go_sem] theorem c20_49_wp : type_of% (wp_of c20_49.eq_1) := wp_of c20_49.eq_1
@[go_sem] theorem c20_50_wp : type_of% (wp_of c20_50.eq_1) := wp_of c20_50.eq_1
@[go_sem] theorem c20_51_wp : type_of% (wp_of c20_51.eq_1) := wp_of c20_51.eq_1
@[go_sem] theorem c20_52_wp : type_of% (wp_of c20_52.eq_1) := wp_of c20_52.eq_1
@[go_sem] theorem c20_53_wp : type_of% (wp_of c20_53.eq_1) := wp_of c20_53.eq_1
@[go_sem] theorem c20_54_wp : type_of% (wp_of c20_54.eq_1) := wp_of c20_54.eq_1
@[go_sem] theorem c20_55_wp : type_of% (wp_of c20_55.eq_1) := wp_of c20_55.eq_1
@[go_sem] theorem c20_56_wp : type_of% (wp_of c20_56.eq_1) := wp_of c20_56.eq_1
@[go_sem] theorem c20_57_wp : type_of% (wp_of c20_57.eq_1) := wp_of c20_57.eq_1
@[go_sem] theorem c20_58_wp : type_of% (wp_of c20_58.eq_1) := wp_of c20_58.eq_1
@[go_sem] theorem c20_59_wp : type_of% (wp_of c20_59.eq_1) := wp_of c20_59.eq_1
@[go_sem] theorem c20_60_wp : type_of% (wp_of c20_60.eq_1) := wp_of c20_60.eq_1
@[go_sem] theorem c20_61_wp : type_of% (wp_of c20_61.eq_1) := wp_of c20_61.eq_1
@[go_sem] theorem c20_62_wp : type_of% (wp_of c20_62.eq_1) := wp_of c20_62.eq_1
@[go_sem] theorem c20_63_wp : type_of% (wp_of c20_63.eq_1) := wp_of c20_63.eq_1
@[go_sem] theorem c20_64_wp : type_of% (wp_of c20_64.eq_1) := wp_of c20_64.eq_1
@[go_sem] theorem c20_65_wp : type_of% (wp_of c20_65.eq_1) := wp_of c20_65.eq_1
@[go_sem] theorem c20_66_wp : type_of% (wp_of c20_66.eq_1) := wp_of c20_66.eq_1
@[go_sem] theorem c20_67_wp : type_of% (wp_of c20_67.eq_1) := wp_of c20_67.eq_1
@[go_sem] theorem c20_68_wp : type_of% (wp_of c20_68.eq_1) := wp_of c20_68.eq_1
@[go_sem] theorem c20_69_wp : type_of% (wp_of c20_69.eq_1) := wp_of c20_69.eq_1
@[go_sem] theorem c20_70_wp : type_of% (wp_of c20_70.eq_1) := wp_of c20_70.eq_1
@[go_sem] theorem c20_71_wp : type_of% (wp_of c20_71.eq_1) := wp_of c20_71.eq_1
@[go_sem] theorem c20_72_wp : type_of% (wp_of c20_72.eq_1) := wp_of c20_72.eq_1
@[go_sem] theorem c20_73_wp : type_of% (wp_of c20_73.eq_1) := wp_of c20_73.eq_1
@[go_sem] theorem c20_74_wp : type_of% (wp_of c20_74.eq_1) := wp_of c20_74.eq_1
@[go_sem] theorem c20_75_wp : type_of% (wp_of c20_75.eq_1) := wp_of c20_75.eq_1
@[go_sem] theorem c20_76_wp : type_of% (wp_of c20_76.eq_1) := wp_of c20_76.eq_1
@[go_sem] theorem c20_77_wp : type_of% (wp_of c20_77.eq_1) := wp_of c20_77.eq_1
@[go_sem] theorem c20_78_wp : type_of% (wp_of c20_78.eq_1) := wp_of c20_78.eq_1
@[go_sem] theorem c20_79_wp : type_of% (wp_of c20_79.eq_1) := wp_of c20_79.eq_1
@[go_sem] theorem c20_80_wp : type_of% (wp_of c20_80.eq_1) := wp_of c20_80.eq_1
@[go_sem] theorem c20_81_wp : type_of% (wp_of c20_81.eq_1) := wp_of c20_81.eq_1
@[go_sem] theorem c20_82_wp : type_of% (wp_of c20_82.eq_1) := wp_of c20_82.eq_1
@[go_sem] theorem c20_83_wp : type_of% (wp_of c20_83.eq_1) := wp_of c20_83.eq_1
@[go_sem] theorem c20_84_wp : type_of% (wp_of c20_84.eq_1) := wp_of c20_84.eq_1
@[go_sem] theorem c20_85_wp : type_of% (wp_of c20_85.eq_1) := wp_of c20_85.eq_1
@[go_sem] theorem c20_86_wp : type_of% (wp_of c20_86.eq_1) := wp_of c20_86.eq_1
@[go_sem] theorem c20_87_wp : type_of% (wp_of c20_87.eq_1) := wp_of c20_87.eq_1
@[go_sem] theorem c20_88_wp : type_of% (wp_of c20_88.eq_1) := wp_of c20_88.eq_1
@[go_sem] theorem c20_89_wp : type_of% (wp_of c20_89.eq_1) := wp_of c20_89.eq_1
@[go_sem] theorem c20_90_wp : type_of% (wp_of c20_90.eq_1) := wp_of c20_90.eq_1
@[go_sem] theorem c20_91_wp : type_of% (wp_of c20_91.eq_1) := wp_of c20_91.eq_1
@[go_sem] theorem c20_92_wp : type_of% (wp_of c20_92.eq_1) := wp_of c20_92.eq_1
@[go_sem] theorem c20_93_wp : type_of% (wp_of c20_93.eq_1) := wp_of c20_93.eq_1
@[go_sem] theorem c20_94_wp : type_of% (wp_of c20_94.eq_1) := wp_of c20_94.eq_1
@[go_sem] theorem c20_95_wp : type_of% (wp_of c20_95.eq_1) := wp_of c20_95.eq_1
@[go_sem] theorem c20_96_wp : type_of% (wp_of c20_96.eq_1) := wp_of c20_96.eq_1
@[go_sem] theorem c20_97_wp : type_of% (wp_of c20_97.eq_1) := wp_of c20_97.eq_1
@[go_sem] theorem c20_98_wp : type_of% (wp_of c20_98.eq_1) := wp_of c20_98.eq_1
@[go_sem] theorem c20_99_wp : type_of% (wp_of c20_99.eq_1) := wp_of c20_99.eq_1
@[go_sem] theorem c20_100_wp : type_of% (wp_of c20_100.eq_1) := wp_of c20_100.eq_1
@[go_sem] theorem c20_101_wp : type_of% (wp_of c20_101.eq_1) := wp_of c20_101.eq_1
@[go_sem] theorem c20_102_wp : type_of% (wp_of c20_102.eq_1) := wp_of c20_102.eq_1
@[go_sem] theorem c20_103_wp : type_of% (wp_of c20_103.eq_1) := wp_of c20_103.eq_1
@[go_sem] theorem c20_104_wp : type_of% (wp_of c20_104.eq_1) := wp_of c20_104.eq_1
@[go_sem] theorem c20_105_wp : type_of% (wp_of c20_105.eq_1) := wp_of c20_105.eq_1
@[go_sem] theorem c20_106_wp : type_of% (wp_of c20_106.eq_1) := wp_of c20_106.eq_1
@[go_sem] theorem c20_107_wp : type_of% (wp_of c20_107.eq_1) := wp_of c20_107.eq_1
@[go_sem] theorem c20_108_wp : type_of% (wp_of c20_108.eq_1) := wp_of c20_108.eq_1
@[go_sem] theorem c20_109_wp : type_of% (wp_of c20_109.eq_1) := wp_of c20_109.eq_1
@[go_sem] theorem c20_110_wp : type_of% (wp_of c20_110.eq_1) := wp_of c20_110.eq_1
@[go_sem] theorem c20_111_wp : type_of% (wp_of c20_111.eq_1) := wp_of c20_111.eq_1
@[go_sem] theorem c20_112_wp : type_of% (wp_of c20_112.eq_1) := wp_of c20_112.eq_1
@[go_sem] theorem c20_113_wp : type_of% (wp_of c20_113.eq_1) := wp_of c20_113.eq_1
@[go_sem] theorem c20_114_wp : type_of% (wp_of c20_114.eq_1) := wp_of c20_114.eq_1
@[go_sem] theorem c20_115_wp : type_of% (wp_of c20_115.eq_1) := wp_of c20_115.eq_1
@[go_sem] theorem c20_116_wp : type_of% (wp_of c20_116.eq_1) := wp_of c20_116.eq_1
@[go_sem] theorem c20_117_wp : type_of% (wp_of c20_117.eq_1) := wp_of c20_117.eq_1
@[go_sem] theorem c20_118_wp : type_of% (wp_of c20_118.eq_1) := wp_of c20_118.eq_1
@[go_sem] theorem c20_119_wp : type_of% (wp_of c20_119.eq_1) := wp_of c20_119.eq_1
@[go_sem] theorem c20_120_wp : type_of% (wp_of c20_120.eq_1) := wp_of c20_120.eq_1
@[go_sem] theorem c20_121_wp : type_of% (wp_of c20_121.eq_1) := wp_of c20_121.eq_1
@[go_sem] theorem c20_122_wp : type_of% (wp_of c20_122.eq_1) := wp_of c20_122.eq_1
@[go_sem] theorem c20_123_wp : type_of% (wp_of c20_123.eq_1) := wp_of c20_123.eq_1
@[go_sem] theorem c20_124_wp : type_of% (wp_of c20_124.eq_1) := wp_of c20_124.eq_1
@[go_sem] theorem c20_125_wp : type_of% (wp_of c20_125.eq_1) := wp_of c20_125.eq_1
@[go_sem] theorem c20_126_wp : type_of% (wp_of c20_126.eq_1) := wp_of c20_126.eq_1
@[go_sem] theorem c20_127_wp : type_of% (wp_of c20_127.eq_1) := wp_of c20_127.eq_1
@[go_sem] theorem c20_128_wp : type_of% (wp_of c20_128.eq_1) := wp_of c20_128.eq_1
@[go_sem] theorem c20_129_wp : type_of% (wp_of c20_129.eq_1) := wp_of c20_129.eq_1
def c20 : AFn := ⟨170, [.t 4], c20_129⟩
set_option maxRecDepth 100000 in
theorem c20_ok : compF Tryd.prog Tryd.f20 = some c20 := by kernel_rfl
theorem a20 {args : List AV} {σ : ASt} {R : AV → ASt → Prop} (hl : args.length ≤ 170) (h : c20_129.wp Tryd.prog (RetQ [.t 4] R) (init args) σ) : ACalls Tryd.prog 20 args σ R := acalls_of Tryd.func20 c20_ok hl h

/-! 21: tabular/maths.Has -/
def c21_0 : ACode := .ops [
    ⟨(some 2), none, .q (.mv (.v (.bool false))), []⟩]
def c21_1 : ACode := .ops [
    ⟨(some 6), none, .q (.mv (.t 0)), []⟩,
    ⟨(some 7), none, .e (.call 31 [(.t 6)]), []⟩,
    ⟨(some 5), none, .q (.mv (.t 7)), []⟩,
    ⟨(some 8), none, .q (.ext 0 (.t 5)), []⟩,
    ⟨(some 9), none, .q (.ext 1 (.t 5)), []⟩,
    ⟨(some 3), none, .q (.mv (.t 8)), []⟩,
    ⟨(some 4), none, .q (.mv (.t 9)), []⟩]
def c21_2 : ACode := .ops [
    ⟨(some 10), none, .q (.mv (.t 4)), []⟩,
    ⟨(some 11), none, .q (.bin .gtr (.t 10) (.v (.int .i64 0))), []⟩,
    ⟨(some 2), none, .q (.mv (.t 11)), []⟩]
def c21_3 : ACode := .seq c21_2 .ret
def c21_4 : ACode := .seq c21_1 c21_3
def c21_5 : ACode := .seq c21_0 c21_4
@[go_sem] theorem c21_0_wp : type_of% (wp_of c21_0.eq_1) := wp_of c21_0.eq_1
@[go_sem] theorem c21_1_wp : type_of% (wp_of c21_1.eq_1) := wp_of c21_1.eq_1
@[go_sem] theorem c21_2_wp : type_of% (wp_of c21_2.eq_1) := wp_of c21_2.eq_1
@[go_sem] theorem c21_3_wp : type_of% (wp_of c21_3.eq_1) := wp_of c21_3.eq_1
@[go_sem] theorem c21_4_wp : type_of% (wp_of c21_4.eq_1) := wp_of c21_4.eq_1
@[go_sem] theorem c21_5_wp : type_of% (wp_of c21_5.eq_1) := wp_of c21_5.eq_1
def c21 : AFn := ⟨12, [.t 2], c21_5⟩
set_option maxRecDepth 100000 in
theorem c21_ok : compF Tryd.prog Tryd.f21 = some c21 := by kernel_rfl
theorem a21 {args : List AV} {σ : ASt} {R : AV → ASt → Prop} (hl : args.length ≤ 12) (h : c21_5.wp Tryd.prog (RetQ [.t 2] R) (init args) σ) : ACalls Tryd.prog 21 args σ R := acalls_of Tryd.func21 c21_ok hl h

/-! 25: tabular/value.Tell -/
def c25_0 : ACode := .ops [
    ⟨(some 2), none, .e (.alloc [(.int .i64 0), (.int .i64 0), (.str [])]), []⟩]
def c25_1 : ACode := .ops [
    ⟨(some 7), none, .q (.mv (.t 0)), []⟩]
def c25_2 : ACode := .ops [
    ⟨(some 8), none, .q (.ta 62 (.int .i64 0) true (.t 7)), []⟩,
    ⟨(some 9), none, .q (.ext 1 (.t 8)), []⟩,
    ⟨(some 10), none, .q (.ext 0 (.t 8)), []⟩]
def c25_3 : ACode := .ops [
    ⟨(some 3), none, .q (.mv (.t 10)), []⟩]
def c25_4 : ACode := .ops [
    ⟨(some 11), none, .q (.mv (.t 3)), []⟩,
    ⟨(some 12), none, .q (.build [(.int .i64 0), (.int .i64 0), (.str [])] [(0, 1, (.v (.int .i64 1))), (1, 1, (.t 11))]), []⟩,
    ⟨none, none, .e (.store 3 (.t 2) (.t 12)), []⟩]
def c25_5 : ACode := .seq c25_4 .ret
def c25_6 : ACode := .seq c25_3 c25_5
def c25_7 : ACode := .ops [
    ⟨(some 13), none, .q (.ta 67 (.str []) true (.t 7)), []⟩,
    ⟨(some 14), none, .q (.ext 1 (.t 13)), []⟩,
    ⟨(some 15), none, .q (.ext 0 (.t 13)), []⟩]
def c25_8 : ACode := .ops [
    ⟨(some 4), none, .q (.mv (.t 15)), []⟩]
def c25_9 : ACode := .ops [
    ⟨(some 16), none, .q (.mv (.t 4)), []⟩,
    ⟨(some 17), none, .q (.build [(.int .i64 0), (.int .i64 0), (.str [])] [(0, 1, (.v (.int .i64 2))), (2, 1, (.t 16))]), []⟩,
    ⟨none, none, .e (.store 3 (.t 2) (.t 17)), []⟩]
def c25_10 : ACode := .seq c25_9 .ret
def c25_11 : ACode := .seq c25_8 c25_10
def c25_12 : ACode := .ops [
    ⟨(some 18), none, .q (.ta 66 (.bool false) true (.t 7)), []⟩,
    ⟨(some 19), none, .q (.ext 1 (.t 18)), []⟩,
    ⟨(some 20), none, .q (.ext 0 (.t 18)), []⟩]
def c25_13 : ACode := .ops [
    ⟨(some 5), none, .q (.mv (.t 20)), []⟩]
def c25_14 : ACode := .ops [
    ⟨(some 21), none, .q (.mv (.t 5)), []⟩]
def c25_15 : ACode := .ops [
    ⟨(some 22), none, .q (.build [(.int .i64 0), (.int .i64 0), (.str [])] [(0, 1, (.v (.int .i64 3))), (1, 1, (.v (.int .i64 1)))]), []⟩,
    ⟨none, none, .e (.store 3 (.t 2) (.t 22)), []⟩]
def c25_16 : ACode := .seq c25_15 .ret
def c25_17 : ACode := .cond (.t 21) c25_16 .skip
def c25_18 : ACode := .seq c25_14 c25_17
def c25_19 : ACode := .ops [
    ⟨(some 23), none, .q (.build [(.int .i64 0), (.int .i64 0), (.str [])] [(0, 1, (.v (.int .i64 3)))]), []⟩,
    ⟨none, none, .e (.store 3 (.t 2) (.t 23)), []⟩]
def c25_20 : ACode := .seq c25_19 .ret
def c25_21 : ACode := .seq c25_18 c25_20
def c25_22 : ACode := .seq c25_13 c25_21
def c25_23 : ACode := .ops [
    ⟨(some 24), none, .q (.ta 39 (.int .i64 0) true (.t 7)), []⟩,
    ⟨(some 25), none, .q (.ext 1 (.t 24)), []⟩,
    ⟨(some 26), none, .q (.ext 0 (.t 24)), []⟩]
def c25_24 : ACode := .ops [
    ⟨(some 6), none, .q (.mv (.t 26)), []⟩]
def c25_25 : ACode := .ops [
    ⟨(some 27), none, .q (.mv (.t 6)), []⟩,
    ⟨(some 28), none, .q (.build [(.int .i64 0), (.int .i64 0), (.str [])] [(0, 1, (.v (.int .i64 4))), (1, 1, (.t 27))]), []⟩,
    ⟨none, none, .e (.store 3 (.t 2) (.t 28)), []⟩]
def c25_26 : ACode := .seq c25_25 .ret
def c25_27 : ACode := .seq c25_24 c25_26
def c25_28 : ACode := .cond (.t 25) c25_27 .skip
def c25_29 : ACode := .seq c25_23 c25_28
def c25_30 : ACode := .cond (.t 19) c25_22 c25_29
def c25_31 : ACode := .seq c25_12 c25_30
def c25_32 : ACode := .cond (.t 14) c25_11 c25_31
def c25_33 : ACode := .seq c25_7 c25_32
def c25_34 : ACode := .cond (.t 9) c25_6 c25_33
def c25_35 : ACode := .seq c25_2 c25_34
def c25_36 : ACode := .block 0 c25_35
def c25_37 : ACode := .seq c25_1 c25_36
def c25_38 : ACode := .ops [
    ⟨(some 29), none, .q (.build [(.int .i64 0), (.int .i64 0), (.str [])] []), []⟩,
    ⟨none, none, .e (.store 3 (.t 2) (.t 29)), []⟩]
def c25_39 : ACode := .seq c25_38 .ret
def c25_40 : ACode := .seq c25_37 c25_39
def c25_41 : ACode := .seq c25_0 c25_40
@[go_sem] theorem c25_0_wp : type_of% (wp_of c25_0.eq_1) := wp_of c25_0.eq_1
@[go_sem] theorem c25_1_wp : type_of% (wp_of c25_1.eq_1) := wp_of c25_1.eq_1
@[go_sem] theorem c25_2_wp : type_of% (wp_of c25_2.eq_1) := wp_of c25_2.eq_1
@[go_sem] theorem c25_3_wp : type_of% (wp_of c25_3.eq_1) := wp_of c25_3.eq_1
@[go_sem] theorem c25_4_wp : type_of% (wp_of c25_4.eq_1) := wp_of c25_4.eq_1
@[go_sem] theorem c25_5_wp : type_of% (wp_of c25_5.eq_1) := wp_of c25_5.eq_1
@[go_sem] theorem c25_6_wp : type_of% (wp_of c25_6.eq_1) := wp_of c25_6.eq_1
@[go_sem] theorem c25_7_wp : type_of% (wp_of c25_7.eq_1) := wp_of c25_7.eq_1
@[go_sem] theorem c25_8_wp : type_of% (wp_of c25_8.eq_1) := wp_of c25_8.eq_1
@[go_sem] theorem c25_9_wp : type_of% (wp_of c25_9.eq_1) := wp_of c25_9.eq_1
@[go_sem] theorem c25_10_wp : type_of% (wp_of c25_10.eq_1) := wp_of c25_10.eq_1
@[go_sem] theorem c25_11_wp : type_of% (wp_of c25_11.eq_1) := wp_of c25_11.eq_1
@[go_sem] theorem c25_12_wp : type_of% (wp_of c25_12.eq_1) := wp_of c25_12.eq_1
@[go_sem] theorem c25_13_wp : type_of% (wp_of c25_13.eq_1) := wp_of c25_13.eq_1
@[go_sem] theorem c25_14_wp : type_of% (wp_of c25_14.eq_1) := wp_of c25_14.eq_1
@[go_sem] theorem c25_15_wp : type_of% (wp_of c25_15.eq_1) := wp_of c25_15.eq_1
@[go_sem] theorem c25_16_wp : type_of% (wp_of c25_16.eq_1) := wp_of c25_16.eq_1
@[go_sem] theorem c25_17_wp : type_of% (wp_of c25_17.eq_1) := wp_of c25_17.eq_1
@[go_sem] theorem c25_18_wp : type_of% (wp_of c25_18.eq_1) := wp_of c25_18.eq_1
@[go_sem] theorem c25_19_wp : type_of% (wp_of c25_19.eq_1) := wp_of c25_19.eq_1
@[go_sem] theorem c25_20_wp : type_of% (wp_of c25_20.eq_1) := wp_of c25_20.eq_1
@[go_sem] theorem c25_21_wp : type_of% (wp_of c25_21.eq_1) := wp_of c25_21.eq_1
@[go_sem] theorem c25_22_wp : type_of% (wp_of c25_22.eq_1) := wp_of c25_22.eq_1
@[go_sem] theorem c25_23_wp : type_of% (wp_of c25_23.eq_1) := wp_of c25_23.eq_1
@[go_sem] theorem c25_24_wp : type_of% (wp_of c25_24.eq_1) := wp_of c25_24.eq_1
@[go_sem] theorem c25_25_wp : type_of% (wp_of c25_25.eq_1) := wp_of c25_25.eq_1
@[go_sem] theorem c25_26_wp : type_of% (wp_of c25_26.eq_1) := wp_of c25_26.eq_1
@[go_sem] theorem c25_27_wp : type_of% (wp_of c25_27.eq_1) := wp_of c25_27.eq_1
@[go_sem] theorem c25_28_wp : type_of% (wp_of c25_28.eq_1) := wp_of c25_28.eq_1
@[go_sem] theorem c25_29_wp : type_of% (wp_of c25_29.eq_1) := wp_of c25_29.eq_1
@[go_sem] theorem c25_30_wp : type_of% (wp_of c25_30.eq_1) := wp_of c25_30.eq_1
@[go_sem] theorem c25_31_wp : type_of% (wp_of c25_31.eq_1) := wp_of c25_31.eq_1
@[go_sem] theorem c25_32_wp : type_of% (wp_of c25_32.eq_1) := wp_of c25_32.eq_1
@[go_sem] theorem c25_33_wp : type_of% (wp_of c25_33.eq_1) := wp_of c25_33.eq_1
@[go_sem] theorem c25_34_wp : type_of% (wp_of c25_34.eq_1) := wp_of c25_34.eq_1
@[go_sem] theorem c25_35_wp : type_of% (wp_of c25_35.eq_1) := wp_of c25_35.eq_1
@[go_sem] theorem c25_36_wp : type_of% (wp_of c25_36.eq_1) := wp_of c25_36.eq_1
@[go_sem] theorem c25_37_wp : type_of% (wp_of c25_37.eq_1) := wp_of c25_37.eq_1
@[go_sem] theorem c25_38_wp : type_of% (wp_of c25_38.eq_1) := wp_of c25_38.eq_1
@[go_sem] theorem c25_39_wp : type_of% (wp_of c25_39.eq_1) := wp_of c25_39.eq_1
@[go_sem] theorem c25_40_wp : type_of% (wp_of c25_40.eq_1) := wp_of c25_40.eq_1
@[go_sem] theorem c25_41_wp : type_of% (wp_of c25_41.eq_1) := wp_of c25_41.eq_1
def c25 : AFn := ⟨30, [.c 2 (some 3)], c25_41⟩
set_option maxRecDepth 100000 in
theorem c25_ok : compF Tryd.prog Tryd.f25 = some c25 := by kernel_rfl
theorem a25 {args : List AV} {σ : ASt} {R : AV → ASt → Prop} (hl : args.length ≤ 30) (h : c25_41.wp Tryd.prog (RetQ [.c 2 (some 3)] R) (init args) σ) : ACalls Tryd.prog 25 args σ R := acalls_of Tryd.func25 c25_ok hl h

/-! 26: tabular/value.Given -/
def c26_0 : ACode := .ops [
    ⟨(some 2), none, .q (.mv (.v (.int .i64 0))), []⟩,
    ⟨(some 3), none, .q (.mv (.v (.bool false))), []⟩]
def c26_1 : ACode := .ops [
    ⟨(some 7), none, .q (.mv (.t 0)), []⟩,
    ⟨(some 8), none, .q (.ta 62 (.int .i64 0) true (.t 7)), []⟩,
    ⟨(some 6), none, .q (.mv (.t 8)), []⟩,
    ⟨(some 9), none, .q (.ext 0 (.t 6)), []⟩,
    ⟨(some 10), none, .q (.ext 1 (.t 6)), []⟩,
    ⟨(some 4), none, .q (.mv (.t 9)), []⟩,
    ⟨(some 5), none, .q (.mv (.t 10)), []⟩]
def c26_2 : ACode := .ops [
    ⟨(some 11), none, .q (.mv (.t 4)), []⟩,
    ⟨(some 12), none, .q (.mv (.t 5)), []⟩,
    ⟨(some 2), none, .q (.mv (.t 11)), []⟩,
    ⟨(some 3), none, .q (.mv (.t 12)), []⟩]
def c26_3 : ACode := .seq c26_2 .ret
def c26_4 : ACode := .seq c26_1 c26_3
def c26_5 : ACode := .seq c26_0 c26_4
@[go_sem] theorem c26_0_wp : type_of% (wp_of c26_0.eq_1) := wp_of c26_0.eq_1
@[go_sem] theorem c26_1_wp : type_of% (wp_of c26_1.eq_1) := wp_of c26_1.eq_1
@[go_sem] theorem c26_2_wp : type_of% (wp_of c26_2.eq_1) := wp_of c26_2.eq_1
@[go_sem] theorem c26_3_wp : type_of% (wp_of c26_3.eq_1) := wp_of c26_3.eq_1
@[go_sem] theorem c26_4_wp : type_of% (wp_of c26_4.eq_1) := wp_of c26_4.eq_1
@[go_sem] theorem c26_5_wp : type_of% (wp_of c26_5.eq_1) := wp_of c26_5.eq_1
def c26 : AFn := ⟨13, [.t 2, .t 3], c26_5⟩
set_option maxRecDepth 100000 in
theorem c26_ok : compF Tryd.prog Tryd.f26 = some c26 := by kernel_rfl
theorem a26 {args : List AV} {σ : ASt} {R : AV → ASt → Prop} (hl : args.length ≤ 13) (h : c26_5.wp Tryd.prog (RetQ [.t 2, .t 3] R) (init args) σ) : ACalls Tryd.prog 26 args σ R := acalls_of Tryd.func26 c26_ok hl h

/-! 28: tabular/value.Of -/
def c28_0 : ACode := .ops [
    ⟨(some 1), none, .e (.box (.t 0)), []⟩,
    ⟨(some 2), none, .q (.mv (.v .nili)), []⟩]
def c28_1 : ACode := .ops [
    ⟨(some 5), none, .q (.fa 0 (.t 1)), []⟩,
    ⟨(some 6), none, .q (.ld none (.t 5)), []⟩]
def c28_2 : ACode := .ops [
    ⟨(some 8), none, .q (.bin .eql (.t 6) (.v (.int .i64 1))), []⟩,
    ⟨(some 7), none, .q (.mv (.t 8)), []⟩]
def c28_3 : ACode := .ops [
    ⟨(some 9), none, .q (.fa 1 (.t 1)), []⟩,
    ⟨(some 10), none, .q (.ld none (.t 9)), []⟩,
    ⟨(some 11), none, .e (.call 8 [(.t 10)]), []⟩]
def c28_4 : ACode := .ops [
    ⟨(some 12), none, .q (.fa 1 (.t 1)), []⟩,
    ⟨(some 13), none, .q (.ld none (.t 12)), []⟩,
    ⟨(some 14), none, .q (.mki 62 (.t 13)), []⟩,
    ⟨(some 2), none, .q (.mv (.t 14)), []⟩]
def c28_5 : ACode := .seq c28_4 .ret
def c28_6 : ACode := .cond (.t 11) c28_5 .skip
def c28_7 : ACode := .seq c28_3 c28_6
def c28_8 : ACode := .ops [
    ⟨(some 16), none, .q (.bin .eql (.t 6) (.v (.int .i64 2))), []⟩,
    ⟨(some 15), none, .q (.mv (.t 16)), []⟩]
def c28_9 : ACode := .ops [
    ⟨(some 18), none, .q (.fa 2 (.t 1)), []⟩,
    ⟨(some 19), none, .q (.ld none (.t 18)), []⟩,
    ⟨(some 20), none, .e (.call 59 [(.t 19)]), []⟩,
    ⟨(some 17), none, .q (.mv (.t 20)), []⟩,
    ⟨(some 21), none, .q (.ext 0 (.t 17)), []⟩,
    ⟨(some 22), none, .q (.ext 1 (.t 17)), []⟩,
    ⟨(some 3), none, .q (.mv (.t 21)), []⟩,
    ⟨(some 4), none, .q (.mv (.t 22)), []⟩]
def c28_10 : ACode := .ops [
    ⟨(some 23), none, .q (.mv (.t 4)), []⟩,
    ⟨(some 24), none, .q (.mv (.t 23)), []⟩,
    ⟨(some 25), (some (24, true)), .q (.fa 2 (.t 1)), []⟩,
    ⟨(some 26), (some (24, true)), .q (.ld none (.t 25)), []⟩,
    ⟨(some 27), (some (24, true)), .q (.lenS (.t 26)), []⟩,
    ⟨(some 28), (some (24, true)), .q (.bin .leq (.t 27) (.v (.int .i64 2000))), []⟩,
    ⟨(some 29), none, .q (.pick (.t 24) (.t 28) (.v (.bool false))), []⟩]
def c28_11 : ACode := .ops [
    ⟨(some 30), none, .q (.fa 2 (.t 1)), []⟩,
    ⟨(some 31), none, .q (.ld none (.t 30)), []⟩,
    ⟨(some 32), none, .q (.mki 67 (.t 31)), []⟩,
    ⟨(some 2), none, .q (.mv (.t 32)), []⟩]
def c28_12 : ACode := .seq c28_11 .ret
def c28_13 : ACode := .cond (.t 29) c28_12 .skip
def c28_14 : ACode := .seq c28_10 c28_13
def c28_15 : ACode := .seq c28_9 c28_14
def c28_16 : ACode := .ops [
    ⟨(some 34), none, .q (.bin .eql (.t 6) (.v (.int .i64 3))), []⟩,
    ⟨(some 33), none, .q (.mv (.t 34)), []⟩]
def c28_17 : ACode := .ops [
    ⟨(some 35), none, .q (.fa 1 (.t 1)), []⟩,
    ⟨(some 36), none, .q (.ld none (.t 35)), []⟩,
    ⟨(some 37), none, .q (.bin .eql (.t 36) (.v (.int .i64 1))), []⟩,
    ⟨(some 38), none, .q (.mki 66 (.t 37)), []⟩,
    ⟨(some 2), none, .q (.mv (.t 38)), []⟩]
def c28_18 : ACode := .seq c28_17 .ret
def c28_19 : ACode := .ops [
    ⟨(some 40), none, .q (.bin .eql (.t 6) (.v (.int .i64 4))), []⟩,
    ⟨(some 39), none, .q (.mv (.t 40)), []⟩]
def c28_20 : ACode := .ops [
    ⟨(some 41), none, .q (.fa 1 (.t 1)), []⟩,
    ⟨(some 42), none, .q (.ld none (.t 41)), []⟩,
    ⟨(some 43), none, .q (.bin .geq (.t 42) (.v (.int .i64 1))), []⟩,
    ⟨(some 44), none, .q (.mv (.t 43)), []⟩,
    ⟨(some 45), (some (44, true)), .q (.fa 1 (.t 1)), []⟩,
    ⟨(some 46), (some (44, true)), .q (.ld none (.t 45)), []⟩,
    ⟨(some 47), (some (44, true)), .e (.call 60 []), [⟨(some (44, true)), .ld none (.t 45), 46⟩]⟩,
    ⟨(some 48), (some (44, true)), .q (.len (.t 47)), []⟩,
    ⟨(some 49), (some (44, true)), .q (.bin .leq (.t 46) (.t 48)), []⟩,
    ⟨(some 50), none, .q (.pick (.t 44) (.t 49) (.v (.bool false))), []⟩]
def c28_21 : ACode := .ops [
    ⟨(some 51), none, .q (.fa 1 (.t 1)), []⟩,
    ⟨(some 52), none, .q (.ld none (.t 51)), []⟩,
    ⟨(some 53), none, .q (.mki 39 (.t 52)), []⟩,
    ⟨(some 2), none, .q (.mv (.t 53)), []⟩]
def c28_22 : ACode := .seq c28_21 .ret
def c28_23 : ACode := .cond (.t 50) c28_22 .skip
def c28_24 : ACode := .seq c28_20 c28_23
def c28_25 : ACode := .cond (.t 39) c28_24 .skip
def c28_26 : ACode := .seq c28_19 c28_25
def c28_27 : ACode := .cond (.t 33) c28_18 c28_26
def c28_28 : ACode := .seq c28_16 c28_27
def c28_29 : ACode := .cond (.t 15) c28_15 c28_28
def c28_30 : ACode := .seq c28_8 c28_29
def c28_31 : ACode := .cond (.t 7) c28_7 c28_30
def c28_32 : ACode := .seq c28_2 c28_31
def c28_33 : ACode := .block 0 c28_32
def c28_34 : ACode := .seq c28_1 c28_33
def c28_35 : ACode := .ops [
    ⟨(some 54), none, .q (.build [] []), []⟩,
    ⟨(some 55), none, .q (.mki 100 (.t 54)), []⟩,
    ⟨(some 2), none, .q (.mv (.t 55)), []⟩]
def c28_36 : ACode := .seq c28_35 .ret
def c28_37 : ACode := .seq c28_34 c28_36
def c28_38 : ACode := .seq c28_0 c28_37
@[go_sem] theorem c28_0_wp : type_of% (wp_of c28_0.eq_1) := wp_of c28_0.eq_1
@[go_sem] theorem c28_1_wp : type_of% (wp_of c28_1.eq_1) := wp_of c28_1.eq_1
@[go_sem] theorem c28_2_wp : type_of% (wp_of c28_2.eq_1) := wp_of c28_2.eq_1
@[go_sem] theorem c28_3_wp : type_of% (wp_of c28_3.eq_1) := wp_of c28_3.eq_1
@[go_sem] theorem c28_4_wp : type_of% (wp_of c28_4.eq_1) := wp_of c28_4.eq_1
@[go_sem] theorem c28_5_wp : type_of% (wp_of c28_5.eq_1) := wp_of c28_5.eq_1
@[go_sem] theorem c28_6_wp : type_of% (wp_of c28_6.eq_1) := wp_of c28_6.eq_1
@[go_sem] theorem c28_7_wp : type_of% (wp_of c28_7.eq_1) := wp_of c28_7.eq_1
@[go_sem] theorem c28_8_wp : type_of% (wp_of c28_8.eq_1) := wp_of c28_8.eq_1
@[go_sem] theorem c28_9_wp : type_of% (wp_of c28_9.eq_1) := wp_of c28_9.eq_1
@[go_sem] theorem c28_10_wp : type_of% (wp_of c28_10.eq_1) := wp_of c28_10.eq_1
@[go_sem] theorem c28_11_wp : type_of% (wp_of c28_11.eq_1) := wp_of c28_11.eq_1
@[go_sem] theorem c28_12_wp : type_of% (wp_of c28_12.eq_1) := wp_of c28_12.eq_1
@[go_sem] theorem c28_13_wp : type_of% (wp_of c28_13.eq_1) := wp_of c28_13.eq_1
@[go_sem] theorem c28_14_wp : type_of% (wp_of c28_14.eq_1) := wp_of c28_14.eq_1
@[go_sem] theorem c28_15_wp : type_of% (wp_of c28_15.eq_1) := wp_of c28_15.eq_1
@[go_sem] theorem c28_16_wp : type_of% (wp_of c28_16.eq_1) := wp_of c28_16.eq_1
@[go_sem] theorem c28_17_wp : type_of% (wp_of c28_17.eq_1) := wp_of c28_17.eq_1
@[go_sem] theorem c28_18_wp : type_of% (wp_of c28_18.eq_1) := wp_of c28_18.eq_1
@[go_sem] theorem c28_19_wp : type_of% (wp_of c28_19.eq_1) := wp_of c28_19.eq_1
@[go_sem] theorem c28_20_wp : type_of% (wp_of c28_20.eq_1) := wp_of c28_20.eq_1
@[go_sem] theorem c28_21_wp : type_of% (wp_of c28_21.eq_1) := wp_of c28_21.eq_1
@[go_sem] theorem c28_22_wp : type_of% (wp_of c28_22.eq_1) := wp_of c28_22.eq_1
@[go_sem] theorem c28_23_wp : type_of% (wp_of c28_23.eq_1) := wp_of c28_23.eq_1
@[go_sem] theorem c28_24_wp : type_of% (wp_of c28_24.eq_1) := wp_of c28_24.eq_1
@[go_sem] theorem c28_25_wp : type_of% (wp_of c28_25.eq_1) := wp_of c28_25.eq_1
@[go_sem] theorem c28_26_wp : type_of% (wp_of c28_26.eq_1) := wp_of c28_26.eq_1
@[go_sem] theorem c28_27_wp : type_of% (wp_of c28_27.eq_1) := wp_of c28_27.eq_1
@[go_sem] theorem c28_28_wp : type_of% (wp_of c28_28.eq_1) := wp_of c28_28.eq_1
@[go_sem] theorem c28_29_wp : type_of% (wp_of c28_29.eq_1) := wp_of c28_29.eq_1
@[go_sem] theorem c28_30_wp : type_of% (wp_of c28_30.eq_1) := wp_of c28_30.eq_1
@[go_sem] theorem c28_31_wp : type_of% (wp_of c28_31.eq_1) := wp_of c28_31.eq_1
@[go_sem] theorem c28_32_wp : type_of% (wp_of c28_32.eq_1) := wp_of c28_32.eq_1
@[go_sem] theorem c28_33_wp : type_of% (wp_of c28_33.eq_1) := wp_of c28_33.eq_1
@[go_sem] theorem c28_34_wp : type_of% (wp_of c28_34.eq_1) := wp_of c28_34.eq_1
@[go_sem] theorem c28_35_wp : type_of% (wp_of c28_35.eq_1) := wp_of c28_35.eq_1
@[go_sem] theorem c28_36_wp : type_of% (wp_of c28_36.eq_1) := wp_of c28_36.eq_1
@[go_sem] theorem c28_37_wp : type_of% (wp_of c28_37.eq_1) := wp_of c28_37.eq_1
@[go_sem] theorem c28_38_wp : type_of% (wp_of c28_38.eq_1) := wp_of c28_38.eq_1
def c28 : AFn := ⟨56, [.t 2], c28_38⟩
set_option maxRecDepth 100000 in
theorem c28_ok : compF Tryd.prog Tryd.f28 = some c28 := by kernel_rfl
theorem a28 {args : List AV} {σ : ASt} {R : AV → ASt → Prop} (hl : args.length ≤ 56) (h : c28_38.wp Tryd.prog (RetQ [.t 2] R) (init args) σ) : ACalls Tryd.prog 28 args σ R := acalls_of Tryd.func28 c28_ok hl h

/-! 30: tabular/value.trim -/
def c30_0 : ACode := .ops [
    ⟨(some 2), none, .q (.mv (.v (.str []))), []⟩]
def c30_1 : ACode := .ops [
    ⟨(some 3), none, .q (.mv (.t 0)), []⟩,
    ⟨(some 4), none, .e (.call 64 [(.t 3), (.v (.str [32]))]), []⟩,
    ⟨(some 2), none, .q (.mv (.t 4)), []⟩]
def c30_2 : ACode := .seq c30_1 .ret
def c30_3 : ACode := .seq c30_0 c30_2
@[go_sem] theorem c30_0_wp : type_of% (wp_of c30_0.eq_1) := wp_of c30_0.eq_1
@[go_sem] theorem c30_1_wp : type_of% (wp_of c30_1.eq_1) := wp_of c30_1.eq_1
@[go_sem] theorem c30_2_wp : type_of% (wp_of c30_2.eq_1) := wp_of c30_2.eq_1
@[go_sem] theorem c30_3_wp : type_of% (wp_of c30_3.eq_1) := wp_of c30_3.eq_1
def c30 : AFn := ⟨5, [.t 2], c30_3⟩
set_option maxRecDepth 100000 in
theorem c30_ok : compF Tryd.prog Tryd.f30 = some c30 := by kernel_rfl
theorem a30 {args : List AV} {σ : ASt} {R : AV → ASt → Prop} (hl : args.length ≤ 5) (h : c30_3.wp Tryd.prog (RetQ [.t 2] R) (init args) σ) : ACalls Tryd.prog 30 args σ R := acalls_of Tryd.func30 c30_ok hl h

/-! 31: tabular/maths.limits -/
def c31_0 : ACode := .ops [
    ⟨(some 2), none, .q (.mv (.v (.int .i64 0))), []⟩,
    ⟨(some 3), none, .q (.mv (.v (.int .i64 0))), []⟩]
def c31_1 : ACode := .ops [
    ⟨(some 4), none, .q (.mv (.t 0)), []⟩]
def c31_2 : ACode := .ops [
    ⟨(some 6), none, .q (.bin .eql (.t 4) (.v (.str [65, 66, 83]))), []⟩,
    ⟨(some 5), none, .q (.mv (.t 6)), []⟩]
def c31_3 : ACode := .ops [
    ⟨(some 7), none, .q (.bin .eql (.t 4) (.v (.str [83, 73, 71, 78]))), []⟩,
    ⟨(some 5), none, .q (.mv (.t 7)), []⟩]
def c31_4 : ACode := .ops [
    ⟨(some 8), none, .q (.bin .eql (.t 4) (.v (.str [73, 78, 84]))), []⟩,
    ⟨(some 5), none, .q (.mv (.t 8)), []⟩]
def c31_5 : ACode := .ops [
    ⟨(some 9), none, .q (.bin .eql (.t 4) (.v (.str [83, 81, 82, 84]))), []⟩,
    ⟨(some 5), none, .q (.mv (.t 9)), []⟩]
def c31_6 : ACode := .ops [
    ⟨(some 10), none, .q (.bin .eql (.t 4) (.v (.str [70, 65, 67, 84]))), []⟩,
    ⟨(some 5), none, .q (.mv (.t 10)), []⟩]
def c31_7 : ACode := .ops [
    ⟨(some 11), none, .q (.bin .eql (.t 4) (.v (.str [69, 86, 69, 78]))), []⟩,
    ⟨(some 5), none, .q (.mv (.t 11)), []⟩]
def c31_8 : ACode := .ops [
    ⟨(some 12), none, .q (.bin .eql (.t 4) (.v (.str [79, 68, 68]))), []⟩,
    ⟨(some 5), none, .q (.mv (.t 12)), []⟩]
def c31_9 : ACode := .cond (.t 5) .skip c31_8
def c31_10 : ACode := .seq c31_7 c31_9
def c31_11 : ACode := .cond (.t 5) .skip c31_10
def c31_12 : ACode := .seq c31_6 c31_11
def c31_13 : ACode := .cond (.t 5) .skip c31_12
def c31_14 : ACode := .seq c31_5 c31_13
def c31_15 : ACode := .cond (.t 5) .skip c31_14
def c31_16 : ACode := .seq c31_4 c31_15
def c31_17 : ACode := .cond (.t 5) .skip c31_16
def c31_18 : ACode := .seq c31_3 c31_17
def c31_19 : ACode := .cond (.t 5) .skip c31_18
def c31_20 : ACode := .seq c31_2 c31_19
def c31_21 : ACode := .ops [
    ⟨(some 2), none, .q (.mv (.v (.int .i64 1))), []⟩,
    ⟨(some 3), none, .q (.mv (.v (.int .i64 1))), []⟩]
def c31_22 : ACode := .seq c31_21 .ret
def c31_23 : ACode := .ops [
    ⟨(some 14), none, .q (.bin .eql (.t 4) (.v (.str [84, 82, 85, 78, 67]))), []⟩,
    ⟨(some 13), none, .q (.mv (.t 14)), []⟩]
def c31_24 : ACode := .ops [
    ⟨(some 15), none, .q (.bin .eql (.t 4) (.v (.str [70, 76, 79, 79, 82]))), []⟩,
    ⟨(some 13), none, .q (.mv (.t 15)), []⟩]
def c31_25 : ACode := .ops [
    ⟨(some 16), none, .q (.bin .eql (.t 4) (.v (.str [67, 69, 73, 76, 73, 78, 71]))), []⟩,
    ⟨(some 13), none, .q (.mv (.t 16)), []⟩]
def c31_26 : ACode := .ops [
    ⟨(some 17), none, .q (.bin .eql (.t 4) (.v (.str [82, 79, 85, 78, 68]))), []⟩,
    ⟨(some 13), none, .q (.mv (.t 17)), []⟩]
def c31_27 : ACode := .ops [
    ⟨(some 18), none, .q (.bin .eql (.t 4) (.v (.str [82, 79, 85, 78, 68, 85, 80]))), []⟩,
    ⟨(some 13), none, .q (.mv (.t 18)), []⟩]
def c31_28 : ACode := .ops [
    ⟨(some 19), none, .q (.bin .eql (.t 4) (.v (.str [82, 79, 85, 78, 68, 68, 79, 87, 78]))), []⟩,
    ⟨(some 13), none, .q (.mv (.t 19)), []⟩]
def c31_29 : ACode := .cond (.t 13) .skip c31_28
def c31_30 : ACode := .seq c31_27 c31_29
def c31_31 : ACode := .cond (.t 13) .skip c31_30
def c31_32 : ACode := .seq c31_26 c31_31
def c31_33 : ACode := .cond (.t 13) .skip c31_32
def c31_34 : ACode := .seq c31_25 c31_33
def c31_35 : ACode := .cond (.t 13) .skip c31_34
def c31_36 : ACode := .seq c31_24 c31_35
def c31_37 : ACode := .cond (.t 13) .skip c31_36
def c31_38 : ACode := .seq c31_23 c31_37
def c31_39 : ACode := .ops [
    ⟨(some 2), none, .q (.mv (.v (.int .i64 1))), []⟩,
    ⟨(some 3), none, .q (.mv (.v (.int .i64 2))), []⟩]
def c31_40 : ACode := .seq c31_39 .ret
def c31_41 : ACode := .ops [
    ⟨(some 21), none, .q (.bin .eql (.t 4) (.v (.str [77, 82, 79, 85, 78, 68]))), []⟩,
    ⟨(some 20), none, .q (.mv (.t 21)), []⟩]
def c31_42 : ACode := .ops [
    ⟨(some 22), none, .q (.bin .eql (.t 4) (.v (.str [77, 79, 68]))), []⟩,
    ⟨(some 20), none, .q (.mv (.t 22)), []⟩]
def c31_43 : ACode := .ops [
    ⟨(some 23), none, .q (.bin .eql (.t 4) (.v (.str [81, 85, 79, 84, 73, 69, 78, 84]))), []⟩,
    ⟨(some 20), none, .q (.mv (.t 23)), []⟩]
def c31_44 : ACode := .ops [
    ⟨(some 24), none, .q (.bin .eql (.t 4) (.v (.str [80, 79, 87, 69, 82]))), []⟩,
    ⟨(some 20), none, .q (.mv (.t 24)), []⟩]
def c31_45 : ACode := .cond (.t 20) .skip c31_44
def c31_46 : ACode := .seq c31_43 c31_45
def c31_47 : ACode := .cond (.t 20) .skip c31_46
def c31_48 : ACode := .seq c31_42 c31_47
def c31_49 : ACode := .cond (.t 20) .skip c31_48
def c31_50 : ACode := .seq c31_41 c31_49
def c31_51 : ACode := .ops [
    ⟨(some 2), none, .q (.mv (.v (.int .i64 2))), []⟩,
    ⟨(some 3), none, .q (.mv (.v (.int .i64 2))), []⟩]
def c31_52 : ACode := .seq c31_51 .ret
def c31_53 : ACode := .ops [
    ⟨(some 26), none, .q (.bin .eql (.t 4) (.v (.str [67, 76, 65, 77, 80]))), []⟩,
    ⟨(some 25), none, .q (.mv (.t 26)), []⟩]
def c31_54 : ACode := .ops [
    ⟨(some 2), none, .q (.mv (.v (.int .i64 3))), []⟩,
    ⟨(some 3), none, .q (.mv (.v (.int .i64 3))), []⟩]
def c31_55 : ACode := .seq c31_54 .ret
def c31_56 : ACode := .ops [
    ⟨(some 28), none, .q (.bin .eql (.t 4) (.v (.str [71, 67, 68]))), []⟩,
    ⟨(some 27), none, .q (.mv (.t 28)), []⟩]
def c31_57 : ACode := .ops [
    ⟨(some 29), none, .q (.bin .eql (.t 4) (.v (.str [76, 67, 77]))), []⟩,
    ⟨(some 27), none, .q (.mv (.t 29)), []⟩]
def c31_58 : ACode := .cond (.t 27) .skip c31_57
def c31_59 : ACode := .seq c31_56 c31_58
def c31_60 : ACode := .ops [
    ⟨(some 2), none, .q (.mv (.v (.int .i64 1))), []⟩,
    ⟨(some 3), none, .q (.mv (.v (.int .i64 30))), []⟩]
def c31_61 : ACode := .seq c31_60 .ret
def c31_62 : ACode := .cond (.t 27) c31_61 .skip
def c31_63 : ACode := .seq c31_59 c31_62
def c31_64 : ACode := .cond (.t 25) c31_55 c31_63
def c31_65 : ACode := .seq c31_53 c31_64
def c31_66 : ACode := .cond (.t 20) c31_52 c31_65
def c31_67 : ACode := .seq c31_50 c31_66
def c31_68 : ACode := .cond (.t 13) c31_40 c31_67
def c31_69 : ACode := .seq c31_38 c31_68
def c31_70 : ACode := .cond (.t 5) c31_22 c31_69
def c31_71 : ACode := .seq c31_20 c31_70
def c31_72 : ACode := .block 0 c31_71
def c31_73 : ACode := .seq c31_1 c31_72
def c31_74 : ACode := .ops [
    ⟨(some 2), none, .q (.mv (.v (.int .i64 0))), []⟩,
    ⟨(some 3), none, .q (.mv (.v (.int .i64 0))), []⟩]
def c31_75 : ACode := .seq c31_74 .ret
def c31_76 : ACode := .seq c31_73 c31_75
def c31_77 : ACode := .seq c31_0 c31_76
@[go_sem] theorem c31_0_wp : type_of% (wp_of c31_0.eq_1) := wp_of c31_0.eq_1
@[go_sem] theorem c31_1_wp : type_of% (wp_of c31_1.eq_1) := wp_of c31_1.eq_1
@[go_sem] theorem c31_2_wp : type_of% (wp_of c31_2.eq_1) := wp_of c31_2.eq_1
@[go_sem] theorem c31_3_wp : type_of% (wp_of c31_3.eq_1) := wp_of c31_3.eq_1
@[go_sem] theorem c31_4_wp : type_of% (wp_of c31_4.eq_1) := wp_of c31_4.eq_1
@[go_sem] theorem c31_5_wp : type_of% (wp_of c31_5.eq_1) := wp_of c31_5.eq_1
@[go_sem] theorem c31_6_wp : type_of% (wp_of c31_6.eq_1) := wp_of c31_6.eq_1
@[go_sem] theorem c31_7_wp : type_of% (wp_of c31_7.eq_1) := wp_of c31_7.eq_1
@[go_sem] theorem c31_8_wp : type_of% (wp_of c31_8.eq_1) := wp_of c31_8.eq_1
@[go_sem] theorem c31_9_wp : type_of% (wp_of c31_9.eq_1) := wp_of c31_9.eq_1
@[go_sem] theorem c31_10_wp : type_of% (wp_of c31_10.eq_1) := wp_of c31_10.eq_1
@[go_sem] theorem c31_11_wp : type_of% (wp_of c31_11.eq_1) := wp_of c31_11.eq_1
@[go_sem] theorem c31_12_wp : type_of% (wp_of c31_12.eq_1) := wp_of c31_12.eq_1
@[go_sem] theorem c31_13_wp : type_of% (wp_of c31_13.eq_1) := wp_of c31_13.eq_1
@[go_sem] theorem c31_14_wp : type_of% (wp_of c31_14.eq_1) := wp_of c31_14.eq_1
@[go_sem] theorem c31_15_wp : type_of% (wp_of c31_15.eq_1) := wp_of c31_15.eq_1
@[go_sem] theorem c31_16_wp : type_of% (wp_of c31_16.eq_1) := wp_of c31_16.eq_1
@[go_sem] theorem c31_17_wp : type_of% (wp_of c31_17.eq_1) := wp_of c31_17.eq_1
@[go_sem] theorem c31_18_wp : type_of% (wp_of c31_18.eq_1) := wp_of c31_18.eq_1
@[go_sem] theorem c31_19_wp : type_of% (wp_of c31_19.eq_1) := wp_of c31_19.eq_1
@[go_sem] theorem c31_20_wp : type_of% (wp_of c31_20.eq_1) := wp_of c31_20.eq_1
@[go_sem] theorem c31_21_wp : type_of% (wp_of c31_21.eq_1) := wp_of c31_21.eq_1
@[go_sem] theorem c31_22_wp : type_of% (wp_of c31_22.eq_1) := wp_of c31_22.eq_1
@[go_sem] theorem c31_23_wp : type_of% (wp_of c31_23.eq_1) := wp_of c31_23.eq_1
@[go_sem] theorem c31_24_wp : type_of% (wp_of c31_24.eq_1) := wp_of c31_24.eq_1
@[go_sem] theorem c31_25_wp : type_of% (wp_of c31_25.eq_1) := wp_of c31_25.eq_1
@[go_sem] theorem c31_26_wp : type_of% (wp_of c31_26.eq_1) := wp_of c31_26.eq_1
@[go_sem] theorem c31_27_wp : type_of% (wp_of c31_27.eq_1) := wp_of c31_27.eq_1
@[go_sem] theorem c31_28_wp : type_of% (wp_of c31_28.eq_1) := wp_of c31_28.eq_1
@[go_sem] theorem c31_29_wp : type_of% (wp_of c31_29.eq_1) := wp_of c31_29.eq_1
@[go_sem] theorem c31_30_wp : type_of% (wp_of c31_30.eq_1) := wp_of c31_30.eq_1
@[go_sem] theorem c31_31_wp : type_of% (wp_of c31_31.eq_1) := wp_of c31_31.eq_1
@[go_sem] theorem c31_32_wp : type_of% (wp_of c31_32.eq_1) := wp_of c31_32.eq_1
@[go_sem] theorem c31_33_wp : type_of% (wp_of c31_33.eq_1) := wp_of c31_33.eq_1
@[go_sem] theorem c31_34_wp : type_of% (wp_of c31_34.eq_1) := wp_of c31_34.eq_1
@[go_sem] theorem c31_35_wp : type_of% (wp_of c31_35.eq_1) := wp_of c31_35.eq_1
@[go_sem] theorem c31_36_wp : type_of% (wp_of c31_36.eq_1) := wp_of c31_36.eq_1
@[go_sem] theorem c31_37_wp : type_of% (wp_of c31_37.eq_1) := wp_of c31_37.eq_1
@[go_sem] theorem c31_38_wp : type_of% (wp_of c31_38.eq_1) := wp_of c31_38.eq_1
@[go_sem] theorem c31_39_wp : type_of% (wp_of c31_39.eq_1) := wp_of c31_39.eq_1
@[go_sem] theorem c31_40_wp : type_of% (wp_of c31_40.eq_1) := wp_of c31_40.eq_1
@[go_sem] theorem c31_41_wp : type_of% (wp_of c31_41.eq_1) := wp_of c31_41.eq_1
@[go_sem] theorem c31_42_wp : type_of% (wp_of c31_42.eq_1) := wp_of c31_42.eq_1
@[go_sem] theorem c31_43_wp : type_of% (wp_of c31_43.eq_1) := wp_of c31_43.eq_1
@[go_sem] theorem c31_44_wp : type_of% (wp_of c31_44.eq_1) := wp_of c31_44.eq_1
@[go_sem] theorem c31_45_wp : type_of% (wp_of c31_45.eq_1) := wp_of c31_45.eq_1
@[go_sem] theorem c31_46_wp : type_of% (wp_of c31_46.eq_1) := wp_of c31_46.eq_1
@[go_sem] theorem c31_47_wp : type_of% (wp_of c31_47.eq_1) := wp_of c31_47.eq_1
@[go_sem] theorem c31_48_wp : type_of% (wp_of c31_48.eq_1) := wp_of c31_48.eq_1
@[go_sem] theorem c31_49_wp : type_of% (wp_of c31_49.eq_1) := wp_of c31_49.eq_1
@[go_sem] theorem c31_50_wp : type_of% (wp_of c31_50.eq_1) := wp_of c31_50.eq_1
@[go_sem] theorem c31_51_wp : type_of% (wp_of c31_51.eq_1) := wp_of c31_51.eq_1
@[go_sem] theorem c31_52_wp : type_of% (wp_of c31_52.eq_1) := wp_of c31_52.eq_1
@[go_sem] theorem c31_53_wp : type_of% (wp_of c31_53.eq_1) := wp_of c31_53.eq_1
@[go_sem] theorem c31_54_wp : type_of% (wp_of c31_54.eq_1) := wp_of c31_54.eq_1
@[go_sem] theorem c31_55_wp : type_of% (wp_of c31_55.eq_1) := wp_of c31_55.eq_1
@[go_sem] theorem c31_56_wp : type_of% (wp_of c31_56.eq_1) := wp_of c31_56.eq_1
@[go_sem] theorem c31_57_wp : type_of% (wp_of c31_57.eq_1) := wp_of c31_57.eq_1
@[go_sem] theorem c31_58_wp : type_of% (wp_of c31_58.eq_1) := wp_of c31_58.eq_1
@[go_sem] theorem c31_59_wp : type_of% (wp_of c31_59.eq_1) := wp_of c31_59.eq_1
@[go_sem] theorem c31_60_wp : type_of% (wp_of c31_60.eq_1) := wp_of c31_60.eq_1
@[go_sem] theorem c31_61_wp : type_of% (wp_of c31_61.eq_1) := wp_of c31_61.eq_1
@[go_sem] theorem c31_62_wp : type_of% (wp_of c31_62.eq_1) := wp_of c31_62.eq_1
@[go_sem] theorem c31_63_wp : type_of% (wp_of c31_63.eq_1) := wp_of c31_63.eq_1
@[go_sem] theorem c31_64_wp : type_of% (wp_of c31_64.eq_1) := wp_of c31_64.eq_1
@[go_sem] theorem c31_65_wp : type_of% (wp_of c31_65.eq_1) := wp_of c31_65.eq_1
@[go_sem] theorem c31_66_wp : type_of% (wp_of c31_66.eq_1) := wp_of c31_66.eq_1
@[go_sem] theorem c31_67_wp : type_of% (wp_of c31_67.eq_1) := wp_of c31_67.eq_1
@[go_sem] theorem c31_68_wp : type_of% (wp_of c31_68.eq_1) := wp_of c31_68.eq_1
@[go_sem] theorem c31_69_wp : type_of% (wp_of c31_69.eq_1) := wp_of c31_69.eq_1
@[go_sem] theorem c31_70_wp : type_of% (wp_of c31_70.eq_1) := wp_of c31_70.eq_1
@[go_sem] theorem c31_71_wp : type_of% (wp_of c31_71.eq_1) := wp_of c31_71.eq_1
@[go_sem] theorem c31_72_wp : type_of% (wp_of c31_72.eq_1) := wp_of c31_72.eq_1
@[go_sem] theorem c31_73_wp : type_of% (wp_of c31_73.eq_1) := wp_of c31_73.eq_1
@[go_sem] theorem c31_74_wp : type_of% (wp_of c31_74.eq_1) := wp_of c31_74.eq_1
@[go_sem] theorem c31_75_wp : type_of% (wp_of c31_75.eq_1) := wp_of c31_75.eq_1
@[go_sem] theorem c31_76_wp : type_of% (wp_of c31_76.eq_1) := wp_of c31_76.eq_1
@[go_sem] theorem c31_77_wp : type_of% (wp_of c31_77.eq_1) := wp_of c31_77.eq_1
def c31 : AFn := ⟨30, [.t 2, .t 3], c31_77⟩
set_option maxRecDepth 100000 in
theorem c31_ok : compF Tryd.prog Tryd.f31 = some c31 := by kernel_rfl
theorem a31 {args : List AV} {σ : ASt} {R : AV → ASt → Prop} (hl : args.length ≤ 30) (h : c31_77.wp Tryd.prog (RetQ [.t 2, .t 3] R) (init args) σ) : ACalls Tryd.prog 31 args σ R := acalls_of Tryd.func31 c31_ok hl h

/-! 32: tabular/maths.numbers -/
def c32_0 : ACode := .ops [
    ⟨(some 2), none, .q (.mv (.v (.sl .full []))), []⟩,
    ⟨(some 3), none, .q (.mv (.v (.int .i64 0))), []⟩]
def c32_1 : ACode := .ops [
    ⟨(some 4), none, .q (.mv (.v (.sl .full []))), []⟩]
def c32_2 : ACode := .ops [
    ⟨(some 9), none, .q (.mv (.t 0)), []⟩,
    ⟨(some 10), none, .q (.len (.t 9)), []⟩,
    ⟨(some 11), none, .q (.mv (.v (.int .i64 0))), []⟩]
def c32_3 : ACode := .ops [
    ⟨(some 12), none, .q (.bin .lss (.t 11) (.t 10)), []⟩]
def c32_4 : ACode := .cond (.t 12) .skip (.exit 0)
def c32_5 : ACode := .ops [
    ⟨(some 13), none, .q (.ia 4 (.t 9) (.t 11)), []⟩,
    ⟨(some 14), none, .q (.ld (some 4) (.t 13)), []⟩,
    ⟨(some 6), none, .e (.alloc [(.int .i64 0), (.int .i64 0), (.bool false), (.sl .full [])]), []⟩,
    ⟨none, none, .e (.store 4 (.t 6) (.t 14)), []⟩]
def c32_6 : ACode := .ops [
    ⟨(some 16), none, .q (.ld (some 4) (.t 6)), []⟩,
    ⟨(some 17), none, .e (.call 17 [(.t 16)]), []⟩,
    ⟨(some 18), none, .e (.call 16 [(.t 17)]), []⟩,
    ⟨(some 15), none, .q (.mv (.t 18)), []⟩,
    ⟨(some 19), none, .q (.ext 0 (.t 15)), []⟩,
    ⟨(some 20), none, .q (.ext 1 (.t 15)), []⟩,
    ⟨(some 7), none, .q (.mv (.t 19)), []⟩,
    ⟨(some 8), none, .q (.mv (.t 20)), []⟩]
def c32_7 : ACode := .ops [
    ⟨(some 21), none, .q (.mv (.t 8)), []⟩,
    ⟨(some 22), none, .q (.bin .neq (.t 21) (.v (.int .i64 0))), []⟩]
def c32_8 : ACode := .ops [
    ⟨(some 23), none, .q (.mv (.t 8)), []⟩,
    ⟨(some 2), none, .q (.mv (.v (.sl .full []))), []⟩,
    ⟨(some 3), none, .q (.mv (.t 23)), []⟩]
def c32_9 : ACode := .seq c32_8 .ret
def c32_10 : ACode := .cond (.t 22) c32_9 .skip
def c32_11 : ACode := .seq c32_7 c32_10
def c32_12 : ACode := .ops [
    ⟨(some 24), none, .q (.mv (.t 4)), []⟩,
    ⟨(some 25), none, .q (.mv (.t 7)), []⟩,
    ⟨(some 26), none, .q (.bsl 1 [(.t 25)]), []⟩,
    ⟨(some 27), none, .e (.app 22 1 8 [(.int .i64 0)] (.t 24) (.t 26)), []⟩,
    ⟨(some 4), none, .q (.mv (.t 27)), []⟩]
def c32_13 : ACode := .seq c32_11 c32_12
def c32_14 : ACode := .seq c32_6 c32_13
def c32_15 : ACode := .seq c32_5 c32_14
def c32_16 : ACode := .block 1 c32_15
def c32_17 : ACode := .ops [
    ⟨(some 28), none, .q (.bin .add (.t 11) (.v (.int .i64 1))), []⟩,
    ⟨(some 11), none, .q (.mv (.t 28)), []⟩]
def c32_18 : ACode := .seq c32_16 c32_17
def c32_19 : ACode := .seq c32_4 c32_18
def c32_20 : ACode := .seq c32_3 c32_19
def c32_21 : ACode := .loop c32_20
def c32_22 : ACode := .block 0 c32_21
def c32_23 : ACode := .seq c32_2 c32_22
def c32_24 : ACode := .ops [
    ⟨(some 29), none, .q (.mv (.t 4)), []⟩,
    ⟨(some 2), none, .q (.mv (.t 29)), []⟩,
    ⟨(some 3), none, .q (.mv (.v (.int .i64 0))), []⟩]
def c32_25 : ACode := .seq c32_24 .ret
def c32_26 : ACode := .seq c32_23 c32_25
def c32_27 : ACode := .seq c32_1 c32_26
def c32_28 : ACode := .seq c32_0 c32_27
@[go_sem] theorem c32_0_wp : type_of% (wp_of c32_0.eq_1) := wp_of c32_0.eq_1
@[go_sem] theorem c32_1_wp : type_of% (wp_of c32_1.eq_1) := wp_of c32_1.eq_1
@[go_sem] theorem c32_2_wp : type_of% (wp_of c32_2.eq_1) := wp_of c32_2.eq_1
@[go_sem] theorem c32_3_wp : type_of% (wp_of c32_3.eq_1) := wp_of c32_3.eq_1
@[go_sem] theorem c32_4_wp : type_of% (wp_of c32_4.eq_1) := wp_of c32_4.eq_1
@[go_sem] theorem c32_5_wp : type_of% (wp_of c32_5.eq_1) := wp_of c32_5.eq_1
@[go_sem] theorem c32_6_wp : type_of% (wp_of c32_6.eq_1) := wp_of c32_6.eq_1
@[go_sem] theorem c32_7_wp : type_of% (wp_of c32_7.eq_1) := wp_of c32_7.eq_1
@[go_sem] theorem c32_8_wp : type_of% (wp_of c32_8.eq_1) := wp_of c32_8.eq_1
@[go_sem] theorem c32_9_wp : type_of% (wp_of c32_9.eq_1) := wp_of c32_9.eq_1
@[go_sem] theorem c32_10_wp : type_of% (wp_of c32_10.eq_1) := wp_of c32_10.eq_1
@[go_sem] theorem c32_11_wp : type_of% (wp_of c32_11.eq_1) := wp_of c32_11.eq_1
@[go_sem] theorem c32_12_wp : type_of% (wp_of c32_12.eq_1) := wp_of c32_12.eq_1
@[go_sem] theorem c32_13_wp : type_of% (wp_of c32_13.eq_1) := wp_of c32_13.eq_1
@[go_sem] theorem c32_14_wp : type_of% (wp_of c32_14.eq_1) := wp_of c32_14.eq_1
@[go_sem] theorem c32_15_wp : type_of% (wp_of c32_15.eq_1) := wp_of c32_15.eq_1
@[go_sem] theorem c32_16_wp : type_of% (wp_of c32_16.eq_1) := wp_of c32_16.eq_1
@[go_sem] theorem c32_17_wp : type_of% (wp_of c32_17.eq_1) := wp_of c32_17.eq_1
@[go_sem] theorem c32_18_wp : type_of% (wp_of c32_18.eq_1) := wp_of c32_18.eq_1
@[go_sem] theorem c32_19_wp : type_of% (wp_of c32_19.eq_1) := wp_of c32_19.eq_1
@[go_sem] theorem c32_20_wp : type_of% (wp_of c32_20.eq_1) := wp_of c32_20.eq_1
@[go_sem] theorem c32_21_wp : type_of% (wp_of c32_21.eq_1) := wp_of c32_21.eq_1
@[go_sem] theorem c32_22_wp : type_of% (wp_of c32_22.eq_1) := wp_of c32_22.eq_1
@[go_sem] theorem c32_23_wp : type_of% (wp_of c32_23.eq_1) := wp_of c32_23.eq_1
@[go_sem] theorem c32_24_wp : type_of% (wp_of c32_24.eq_1) := wp_of c32_24.eq_1
@[go_sem] theorem c32_25_wp : type_of% (wp_of c32_25.eq_1) := wp_of c32_25.eq_1
@[go_sem] theorem c32_26_wp : type_of% (wp_of c32_26.eq_1) := wp_of c32_26.eq_1
@[go_sem] theorem c32_27_wp : type_of% (wp_of c32_27.eq_1) := wp_of c32_27.eq_1
@[go_sem] theorem c32_28_wp : type_of% (wp_of c32_28.eq_1) := wp_of c32_28.eq_1
def c32 : AFn := ⟨30, [.t 2, .t 3], c32_28⟩
set_option maxRecDepth 100000 in
theorem c32_ok : compF Tryd.prog Tryd.f32 = some c32 := by kernel_rfl
theorem a32 {args : List AV} {σ : ASt} {R : AV → ASt → Prop} (hl : args.length ≤ 30) (h : c32_28.wp Tryd.prog (RetQ [.t 2, .t 3] R) (init args) σ) : ACalls Tryd.prog 32 args σ R := acalls_of Tryd.func32 c32_ok hl h

/-! 34: tabular/value.Counted -/
def c34_0 : ACode := .ops [
    ⟨(some 4), none, .q (.mv (.v .nili)), []⟩]
def c34_1 : ACode := .ops [
    ⟨(some 5), none, .q (.mv (.t 1)), []⟩,
    ⟨(some 6), none, .q (.un .not (.t 5)), []⟩]
def c34_2 : ACode := .ops [
    ⟨(some 7), none, .q (.mki 39 (.v (.int .i64 2))), []⟩,
    ⟨(some 4), none, .q (.mv (.t 7)), []⟩]
def c34_3 : ACode := .seq c34_2 .ret
def c34_4 : ACode := .cond (.t 6) c34_3 .skip
def c34_5 : ACode := .seq c34_1 c34_4
def c34_6 : ACode := .ops [
    ⟨(some 8), none, .q (.mv (.t 0)), []⟩,
    ⟨(some 9), none, .q (.mki 62 (.t 8)), []⟩,
    ⟨(some 4), none, .q (.mv (.t 9)), []⟩]
def c34_7 : ACode := .seq c34_6 .ret
def c34_8 : ACode := .seq c34_5 c34_7
def c34_9 : ACode := .seq c34_0 c34_8
@[go_sem] theorem c34_0_wp : type_of% (wp_of c34_0.eq_1) := wp_of c34_0.eq_1
@[go_sem] theorem c34_1_wp : type_of% (wp_of c34_1.eq_1) := wp_of c34_1.eq_1
@[go_sem] theorem c34_2_wp : type_of% (wp_of c34_2.eq_1) := wp_of c34_2.eq_1
@[go_sem] theorem c34_3_wp : type_of% (wp_of c34_3.eq_1) := wp_of c34_3.eq_1
@[go_sem] theorem c34_4_wp : type_of% (wp_of c34_4.eq_1) := wp_of c34_4.eq_1
@[go_sem] theorem c34_5_wp : type_of% (wp_of c34_5.eq_1) := wp_of c34_5.eq_1
@[go_sem] theorem c34_6_wp : type_of% (wp_of c34_6.eq_1) := wp_of c34_6.eq_1
@[go_sem] theorem c34_7_wp : type_of% (wp_of c34_7.eq_1) := wp_of c34_7.eq_1
@[go_sem] theorem c34_8_wp : type_of% (wp_of c34_8.eq_1) := wp_of c34_8.eq_1
@[go_sem] theorem c34_9_wp : type_of% (wp_of c34_9.eq_1) := wp_of c34_9.eq_1
def c34 : AFn := ⟨10, [.t 4], c34_9⟩
set_option maxRecDepth 100000 in
theorem c34_ok : compF Tryd.prog Tryd.f34 = some c34 := by kernel_rfl
theorem a34 {args : List AV} {σ : ASt} {R : AV → ASt → Prop} (hl : args.length ≤ 10) (h : c34_9.wp Tryd.prog (RetQ [.t 4] R) (init args) σ) : ACalls Tryd.prog 34 args σ R := acalls_of Tryd.func34 c34_ok hl h

/-! 37: tabular/maths.places -/
def c37_0 : ACode := .ops [
    ⟨(some 2), none, .q (.mv (.v (.int .i64 0))), []⟩]
def c37_1 : ACode := .ops [
    ⟨(some 4), none, .q (.mv (.t 0)), []⟩,
    ⟨(some 5), none, .e (.call 41 [(.t 4), (.v (.int .i64 0))]), []⟩,
    ⟨(some 6), none, .e (.call 13 [(.t 5)]), []⟩,
    ⟨(some 3), none, .q (.mv (.t 6)), []⟩]
def c37_2 : ACode := .ops [
    ⟨(some 7), none, .q (.mv (.t 3)), []⟩,
    ⟨(some 8), none, .q (.mnx false (.t 7) (.v (.int .i64 20))), []⟩,
    ⟨(some 9), none, .q (.mnx true (.t 8) (.v (.int .i64 (-20)))), []⟩,
    ⟨(some 2), none, .q (.mv (.t 9)), []⟩]
def c37_3 : ACode := .seq c37_2 .ret
def c37_4 : ACode := .seq c37_1 c37_3
def c37_5 : ACode := .seq c37_0 c37_4
@[go_sem] theorem c37_0_wp : type_of% (wp_of c37_0.eq_1) := wp_of c37_0.eq_1
@[go_sem] theorem c37_1_wp : type_of% (wp_of c37_1.eq_1) := wp_of c37_1.eq_1
@[go_sem] theorem c37_2_wp : type_of% (wp_of c37_2.eq_1) := wp_of c37_2.eq_1
@[go_sem] theorem c37_3_wp : type_of% (wp_of c37_3.eq_1) := wp_of c37_3.eq_1
@[go_sem] theorem c37_4_wp : type_of% (wp_of c37_4.eq_1) := wp_of c37_4.eq_1
@[go_sem] theorem c37_5_wp : type_of% (wp_of c37_5.eq_1) := wp_of c37_5.eq_1
def c37 : AFn := ⟨10, [.t 2], c37_5⟩
set_option maxRecDepth 100000 in
theorem c37_ok : compF Tryd.prog Tryd.f37 = some c37 := by kernel_rfl
theorem a37 {args : List AV} {σ : ASt} {R : AV → ASt → Prop} (hl : args.length ≤ 10) (h : c37_5.wp Tryd.prog (RetQ [.t 2] R) (init args) σ) : ACalls Tryd.prog 37 args σ R := acalls_of Tryd.func37 c37_ok hl h

/-! 39: tabular/maths.away -/
def c39_0 : ACode := .ops [
    ⟨(some 4), none, .q (.mv (.v .nili)), []⟩]
def c39_1 : ACode := .ops [
    ⟨(some 8), none, .q (.mv (.t 0)), []⟩,
    ⟨(some 9), none, .q (.mv (.t 1)), []⟩,
    ⟨(some 10), none, .e (.call 36 [(.t 8), (.t 9)]), []⟩,
    ⟨(some 5), none, .q (.mv (.t 10)), []⟩]
def c39_2 : ACode := .ops [
    ⟨(some 11), none, .q (.mv (.t 5)), []⟩,
    ⟨(some 12), none, .q (.mv (.t 0)), []⟩,
    ⟨(some 13), none, .q (.bin .eql (.t 11) (.t 12)), []⟩]
def c39_3 : ACode := .ops [
    ⟨(some 14), none, .q (.mv (.t 0)), []⟩,
    ⟨(some 15), none, .q (.mki 62 (.t 14)), []⟩,
    ⟨(some 4), none, .q (.mv (.t 15)), []⟩]
def c39_4 : ACode := .seq c39_3 .ret
def c39_5 : ACode := .cond (.t 13) c39_4 .skip
def c39_6 : ACode := .seq c39_2 c39_5
def c39_7 : ACode := .ops [
    ⟨(some 17), none, .q (.mv (.t 1)), []⟩,
    ⟨(some 18), none, .q (.un .neg (.t 17)), []⟩,
    ⟨(some 19), none, .e (.call 68 [(.v (.int .i64 100000)), (.t 18)]), []⟩,
    ⟨(some 16), none, .q (.mv (.t 19)), []⟩,
    ⟨(some 20), none, .q (.ext 0 (.t 16)), []⟩,
    ⟨(some 21), none, .q (.ext 1 (.t 16)), []⟩,
    ⟨(some 6), none, .q (.mv (.t 20)), []⟩,
    ⟨(some 7), none, .q (.mv (.t 21)), []⟩]
def c39_8 : ACode := .ops [
    ⟨(some 22), none, .q (.mv (.t 1)), []⟩,
    ⟨(some 23), none, .q (.bin .gtr (.t 22) (.v (.int .i64 0))), []⟩]
def c39_9 : ACode := .ops [
    ⟨(some 24), none, .q (.mv (.t 1)), []⟩,
    ⟨(some 25), none, .e (.call 69 [(.t 24)]), []⟩,
    ⟨(some 6), none, .q (.mv (.t 25)), []⟩,
    ⟨(some 7), none, .q (.mv (.v (.bool true))), []⟩]
def c39_10 : ACode := .cond (.t 23) c39_9 .skip
def c39_11 : ACode := .seq c39_8 c39_10
def c39_12 : ACode := .ops [
    ⟨(some 26), none, .q (.mv (.t 7)), []⟩,
    ⟨(some 27), none, .q (.un .not (.t 26)), []⟩]
def c39_13 : ACode := .ops [
    ⟨(some 28), none, .q (.mki 39 (.v (.int .i64 2))), []⟩,
    ⟨(some 4), none, .q (.mv (.t 28)), []⟩]
def c39_14 : ACode := .seq c39_13 .ret
def c39_15 : ACode := .cond (.t 27) c39_14 .skip
def c39_16 : ACode := .seq c39_12 c39_15
def c39_17 : ACode := .ops [
    ⟨(some 29), none, .q (.mv (.t 0)), []⟩,
    ⟨(some 30), none, .q (.bin .lss (.t 29) (.v (.int .i64 0))), []⟩]
def c39_18 : ACode := .ops [
    ⟨(some 31), none, .q (.mv (.t 5)), []⟩,
    ⟨(some 32), none, .q (.mv (.t 6)), []⟩,
    ⟨(some 33), none, .e (.call 65 [(.t 31), (.t 32)]), []⟩,
    ⟨(some 34), none, .q (.ext 0 (.t 33)), []⟩,
    ⟨(some 35), none, .q (.ext 1 (.t 33)), []⟩,
    ⟨(some 36), none, .e (.call 34 [(.t 34), (.t 35)]), []⟩,
    ⟨(some 4), none, .q (.mv (.t 36)), []⟩]
def c39_19 : ACode := .seq c39_18 .ret
def c39_20 : ACode := .cond (.t 30) c39_19 .skip
def c39_21 : ACode := .seq c39_17 c39_20
def c39_22 : ACode := .ops [
    ⟨(some 37), none, .q (.mv (.t 5)), []⟩,
    ⟨(some 38), none, .q (.mv (.t 6)), []⟩,
    ⟨(some 39), none, .e (.call 70 [(.t 37), (.t 38)]), []⟩,
    ⟨(some 40), none, .q (.ext 0 (.t 39)), []⟩,
    ⟨(some 41), none, .q (.ext 1 (.t 39)), []⟩,
    ⟨(some 42), none, .e (.call 34 [(.t 40), (.t 41)]), []⟩,
    ⟨(some 4), none, .q (.mv (.t 42)), []⟩]
def c39_23 : ACode := .seq c39_22 .ret
def c39_24 : ACode := .seq c39_21 c39_23
def c39_25 : ACode := .seq c39_16 c39_24
def c39_26 : ACode := .seq c39_11 c39_25
def c39_27 : ACode := .seq c39_7 c39_26
def c39_28 : ACode := .seq c39_6 c39_27
def c39_29 : ACode := .seq c39_1 c39_28
def c39_30 : ACode := .seq c39_0 c39_29
@[go_sem] theorem c39_0_wp : type_of% (wp_of c39_0.eq_1) := wp_of c39_0.eq_1
@[go_sem] theorem c39_1_wp : type_of% (wp_of c39_1.eq_1) := wp_of c39_1.eq_1
@[go_sem] theorem c39_2_wp : type_of% (wp_of c39_2.eq_1) := wp_of c39_2.eq_1
@[go_sem] theorem c39_3_wp : type_of% (wp_of c39_3.eq_1) := wp_of c39_3.eq_1
@[go_sem] theorem c39_4_wp : type_of% (wp_of c39_4.eq_1) := wp_of c39_4.eq_1
@[go_sem] theorem c39_5_wp : type_of% (wp_of c39_5.eq_1) := wp_of c39_5.eq_1
@[go_sem] theorem c39_6_wp : type_of% (wp_of c39_6.eq_1) := wp_of c39_6.eq_1
@[go_sem] theorem c39_7_wp : type_of% (wp_of c39_7.eq_1) := wp_of c39_7.eq_1
@[go_sem] theorem c39_8_wp : type_of% (wp_of c39_8.eq_1) := wp_of c39_8.eq_1
@[go_sem] theorem c39_9_wp : type_of% (wp_of c39_9.eq_1) := wp_of c39_9.eq_1
@[go_sem] theorem c39_10_wp : type_of% (wp_of c39_10.eq_1) := wp_of c39_10.eq_1
@[go_sem] theorem c39_11_wp : type_of% (wp_of c39_11.eq_1) := wp_of c39_11.eq_1
@[go_sem] theorem c39_12_wp : type_of% (wp_of c39_12.eq_1) := wp_of c39_12.eq_1
@[go_sem] theorem c39_13_wp : type_of% (wp_of c39_13.eq_1) := wp_of c39_13.eq_1
@[go_sem] theorem c39_14_wp : type_of% (wp_of c39_14.eq_1) := wp_of c39_14.eq_1
@[go_sem] theorem c39_15_wp : type_of% (wp_of c39_15.eq_1) := wp_of c39_15.eq_1
@[go_sem] theorem c39_16_wp : type_of% (wp_of c39_16.eq_1) := wp_of c39_16.eq_1
@[go_sem] theorem c39_17_wp : type_of% (wp_of c39_17.eq_1) := wp_of c39_17.eq_1
@[go_sem] theorem c39_18_wp : type_of% (wp_of c39_18.eq_1) := wp_of c39_18.eq_1
@[go_sem] theorem c39_19_wp : type_of% (wp_of c39_19.eq_1) := wp_of c39_19.eq_1
@[go_sem] theorem c39_20_wp : type_of% (wp_of c39_20.eq_1) := wp_of c39_20.eq_1
@[go_sem] theorem c39_21_wp : type_of% (wp_of c39_21.eq_1) := wp_of c39_21.eq_1
@[go_sem] theorem c39_22_wp : type_of% (wp_of c39_22.eq_1) := wp_of c39_22.eq_1
@[go_sem] theorem c39_23_wp : type_of% (wp_of c39_23.eq_1) := wp_of c39_23.eq_1
@[go_sem] theorem c39_24_wp : type_of% (wp_of c39_24.eq_1) := wp_of c39_24.eq_1
@[go_sem] theorem c39_25_wp : type_of% (wp_of c39_25.eq_1) := wp_of c39_25.eq_1
@[go_sem] theorem c39_26_wp : type_of% (wp_of c39_26.eq_1) := wp_of c39_26.eq_1
@[go_sem] theorem c39_27_wp : type_of% (wp_of c39_27.eq_1) := wp_of c39_27.eq_1
@[go_sem] theorem c39_28_wp : type_of% (wp_of c39_28.eq_1) := wp_of c39_28.eq_1
@[go_sem] theorem c39_29_wp : type_of% (wp_of c39_29.eq_1) := wp_of c39_29.eq_1
@[go_sem] theorem c39_30_wp : type_of% (wp_of c39_30.eq_1) := wp_of c39_30.eq_1
def c39 : AFn := ⟨43, [.t 4], c39_30⟩
set_option maxRecDepth 100000 in
theorem c39_ok : compF Tryd.prog Tryd.f39 = some c39 := by kernel_rfl
theorem a39 {args : List AV} {σ : ASt} {R : AV → ASt → Prop} (hl : args.length ≤ 43) (h : c39_30.wp Tryd.prog (RetQ [.t 4] R) (init args) σ) : ACalls Tryd.prog 39 args σ R := acalls_of Tryd.func39 c39_ok hl h

/-! 41: tabular/maths.second -/
def c41_0 : ACode := .ops [
    ⟨(some 4), none, .q (.mv (.v (.int .i64 0))), []⟩]
def c41_1 : ACode := .ops [
    ⟨(some 5), none, .q (.mv (.t 0)), []⟩,
    ⟨(some 6), none, .q (.len (.t 5)), []⟩,
    ⟨(some 7), none, .q (.bin .gtr (.t 6) (.v (.int .i64 1))), []⟩]
def c41_2 : ACode := .ops [
    ⟨(some 8), none, .q (.mv (.t 0)), []⟩,
    ⟨(some 9), none, .q (.ia 1 (.t 8) (.v (.int .i64 1))), []⟩,
    ⟨(some 10), none, .q (.ld none (.t 9)), []⟩,
    ⟨(some 4), none, .q (.mv (.t 10)), []⟩]
def c41_3 : ACode := .seq c41_2 .ret
def c41_4 : ACode := .cond (.t 7) c41_3 .skip
def c41_5 : ACode := .seq c41_1 c41_4
def c41_6 : ACode := .ops [
    ⟨(some 11), none, .q (.mv (.t 1)), []⟩,
    ⟨(some 4), none, .q (.mv (.t 11)), []⟩]
def c41_7 : ACode := .seq c41_6 .ret
def c41_8 : ACode := .seq c41_5 c41_7
def c41_9 : ACode := .seq c41_0 c41_8
@[go_sem] theorem c41_0_wp : type_of% (wp_of c41_0.eq_1) := wp_of c41_0.eq_1
@[go_sem] theorem c41_1_wp : type_of% (wp_of c41_1.eq_1) := wp_of c41_1.eq_1
@[go_sem] theorem c41_2_wp : type_of% (wp_of c41_2.eq_1) := wp_of c41_2.eq_1
@[go_sem] theorem c41_3_wp : type_of% (wp_of c41_3.eq_1) := wp_of c41_3.eq_1
@[go_sem] theorem c41_4_wp : type_of% (wp_of c41_4.eq_1) := wp_of c41_4.eq_1
@[go_sem] theorem c41_5_wp : type_of% (wp_of c41_5.eq_1) := wp_of c41_5.eq_1
@[go_sem] theorem c41_6_wp : type_of% (wp_of c41_6.eq_1) := wp_of c41_6.eq_1
@[go_sem] theorem c41_7_wp : type_of% (wp_of c41_7.eq_1) := wp_of c41_7.eq_1
@[go_sem] theorem c41_8_wp : type_of% (wp_of c41_8.eq_1) := wp_of c41_8.eq_1
@[go_sem] theorem c41_9_wp : type_of% (wp_of c41_9.eq_1) := wp_of c41_9.eq_1
def c41 : AFn := ⟨12, [.t 4], c41_9⟩
set_option maxRecDepth 100000 in
theorem c41_ok : compF Tryd.prog Tryd.f41 = some c41 := by kernel_rfl
theorem a41 {args : List AV} {σ : ASt} {R : AV → ASt → Prop} (hl : args.length ≤ 12) (h : c41_9.wp Tryd.prog (RetQ [.t 4] R) (init args) σ) : ACalls Tryd.prog 41 args σ R := acalls_of Tryd.func41 c41_ok hl h

/-! 44: tabular/maths.quotient -/
def c44_0 : ACode := .ops [
    ⟨(some 4), none, .q (.mv (.v .nili)), []⟩]
def c44_1 : ACode := .ops [
    ⟨(some 5), none, .q (.mv (.t 1)), []⟩,
    ⟨(some 6), none, .q (.bin .eql (.t 5) (.v (.int .i64 0))), []⟩]
def c44_2 : ACode := .ops [
    ⟨(some 7), none, .q (.mki 39 (.v (.int .i64 1))), []⟩,
    ⟨(some 4), none, .q (.mv (.t 7)), []⟩]
def c44_3 : ACode := .seq c44_2 .ret
def c44_4 : ACode := .cond (.t 6) c44_3 .skip
def c44_5 : ACode := .seq c44_1 c44_4
def c44_6 : ACode := .ops [
    ⟨(some 8), none, .q (.mv (.t 0)), []⟩,
    ⟨(some 9), none, .q (.mv (.t 1)), []⟩,
    ⟨(some 10), none, .q (.bin .quo (.t 8) (.t 9)), []⟩,
    ⟨(some 11), none, .e (.call 72 [(.t 10)]), []⟩,
    ⟨(some 12), none, .q (.ext 0 (.t 11)), []⟩,
    ⟨(some 13), none, .q (.ext 1 (.t 11)), []⟩,
    ⟨(some 14), none, .e (.call 34 [(.t 12), (.t 13)]), []⟩,
    ⟨(some 4), none, .q (.mv (.t 14)), []⟩]
def c44_7 : ACode := .seq c44_6 .ret
def c44_8 : ACode := .seq c44_5 c44_7
def c44_9 : ACode := .seq c44_0 c44_8
@[go_sem] theorem c44_0_wp : type_of% (wp_of c44_0.eq_1) := wp_of c44_0.eq_1
@[go_sem] theorem c44_1_wp : type_of% (wp_of c44_1.eq_1) := wp_of c44_1.eq_1
@[go_sem] theorem c44_2_wp : type_of% (wp_of c44_2.eq_1) := wp_of c44_2.eq_1
@[go_sem] theorem c44_3_wp : type_of% (wp_of c44_3.eq_1) := wp_of c44_3.eq_1
@[go_sem] theorem c44_4_wp : type_of% (wp_of c44_4.eq_1) := wp_of c44_4.eq_1
@[go_sem] theorem c44_5_wp : type_of% (wp_of c44_5.eq_1) := wp_of c44_5.eq_1
@[go_sem] theorem c44_6_wp : type_of% (wp_of c44_6.eq_1) := wp_of c44_6.eq_1
@[go_sem] theorem c44_7_wp : type_of% (wp_of c44_7.eq_1) := wp_of c44_7.eq_1
@[go_sem] theorem c44_8_wp : type_of% (wp_of c44_8.eq_1) := wp_of c44_8.eq_1
@[go_sem] theorem c44_9_wp : type_of% (wp_of c44_9.eq_1) := wp_of c44_9.eq_1
def c44 : AFn := ⟨15, [.t 4], c44_9⟩
set_option maxRecDepth 100000 in
theorem c44_ok : compF Tryd.prog Tryd.f44 = some c44 := by kernel_rfl
theorem a44 {args : List AV} {σ : ASt} {R : AV → ASt → Prop} (hl : args.length ≤ 15) (h : c44_9.wp Tryd.prog (RetQ [.t 4] R) (init args) σ) : ACalls Tryd.prog 44 args σ R := acalls_of Tryd.func44 c44_ok hl h

/-! 49: tabular/maths.many -/
def c49_0 : ACode := .ops [
    ⟨(some 4), none, .q (.mv (.v .nili)), []⟩]
def c49_1 : ACode := .ops [
    ⟨(some 5), none, .q (.mv (.v (.int .i64 (-1)))), []⟩]
def c49_2 : ACode := .ops [
    ⟨(some 15), none, .q (.mv (.t 1)), []⟩,
    ⟨(some 16), none, .q (.len (.t 15)), []⟩,
    ⟨(some 17), none, .q (.mv (.v (.int .i64 0))), []⟩]
def c49_3 : ACode := .ops [
    ⟨(some 18), none, .q (.bin .lss (.t 17) (.t 16)), []⟩]
def c49_4 : ACode := .cond (.t 18) .skip (.exit 0)
def c49_5 : ACode := .ops [
    ⟨(some 19), none, .q (.ia 1 (.t 15) (.t 17)), []⟩,
    ⟨(some 20), none, .q (.ld none (.t 19)), []⟩,
    ⟨(some 7), none, .q (.mv (.t 20)), []⟩]
def c49_6 : ACode := .ops [
    ⟨(some 21), none, .q (.mv (.t 7)), []⟩,
    ⟨(some 22), none, .e (.call 13 [(.t 21)]), []⟩,
    ⟨(some 8), none, .q (.mv (.t 22)), []⟩]
def c49_7 : ACode := .ops [
    ⟨(some 49), none, .q (.mv (.t 7)), []⟩,
    ⟨(some 50), none, .q (.bin .lss (.t 49) (.v (.int .i64 0))), []⟩,
    ⟨(some 48), none, .q (.mv (.t 50)), []⟩]
def c49_8 : ACode := .ops [
    ⟨(some 51), none, .q (.mki 39 (.v (.int .i64 2))), []⟩,
    ⟨(some 4), none, .q (.mv (.t 51)), []⟩]
def c49_9 : ACode := .seq c49_8 .ret
def c49_10 : ACode := .ops [
    ⟨(some 53), none, .q (.mv (.t 5)), []⟩,
    ⟨(some 54), none, .q (.bin .lss (.t 53) (.v (.int .i64 0))), []⟩,
    ⟨(some 52), none, .q (.mv (.t 54)), []⟩]
def c49_11 : ACode := .ops [
    ⟨(some 55), none, .q (.mv (.t 8)), []⟩,
    ⟨(some 5), none, .q (.mv (.t 55)), []⟩]
def c49_12 : ACode := .ops [
    ⟨(some 57), none, .q (.mv (.t 0)), []⟩,
    ⟨(some 58), none, .q (.bin .eql (.t 57) (.v (.str [71, 67, 68]))), []⟩,
    ⟨(some 56), none, .q (.mv (.t 58)), []⟩]
def c49_13 : ACode := .ops [
    ⟨(some 59), none, .q (.mv (.t 5)), []⟩,
    ⟨(some 60), none, .q (.mv (.t 8)), []⟩,
    ⟨(some 61), none, .e (.call 75 [(.t 59), (.t 60)]), []⟩,
    ⟨(some 5), none, .q (.mv (.t 61)), []⟩]
def c49_14 : ACode := .ops [
    ⟨(some 63), none, .q (.mv (.t 5)), []⟩,
    ⟨(some 64), none, .q (.bin .eql (.t 63) (.v (.int .i64 0))), []⟩,
    ⟨(some 65), none, .q (.mv (.t 64)), []⟩,
    ⟨(some 66), (some (65, false)), .q (.mv (.t 8)), []⟩,
    ⟨(some 67), (some (65, false)), .q (.bin .eql (.t 66) (.v (.int .i64 0))), []⟩,
    ⟨(some 68), none, .q (.pick (.t 65) (.v (.bool true)) (.t 67)), []⟩,
    ⟨(some 62), none, .q (.mv (.t 68)), []⟩]
def c49_15 : ACode := .ops [
    ⟨(some 5), none, .q (.mv (.v (.int .i64 0))), []⟩]
def c49_16 : ACode := .ops [
    ⟨(some 24), none, .q (.mv (.t 5)), []⟩,
    ⟨(some 25), none, .q (.mv (.t 5)), []⟩,
    ⟨(some 26), none, .q (.mv (.t 8)), []⟩,
    ⟨(some 27), none, .e (.call 75 [(.t 25), (.t 26)]), []⟩,
    ⟨(some 28), none, .q (.bin .quo (.t 24) (.t 27)), []⟩,
    ⟨(some 29), none, .e (.call 72 [(.t 28)]), []⟩,
    ⟨(some 23), none, .q (.mv (.t 29)), []⟩,
    ⟨(some 30), none, .q (.ext 0 (.t 23)), []⟩,
    ⟨(some 31), none, .q (.ext 1 (.t 23)), []⟩,
    ⟨(some 9), none, .q (.mv (.t 30)), []⟩,
    ⟨(some 10), none, .q (.mv (.t 31)), []⟩]
def c49_17 : ACode := .ops [
    ⟨(some 33), none, .q (.mv (.t 8)), []⟩,
    ⟨(some 34), none, .e (.call 72 [(.t 33)]), []⟩,
    ⟨(some 32), none, .q (.mv (.t 34)), []⟩,
    ⟨(some 35), none, .q (.ext 0 (.t 32)), []⟩,
    ⟨(some 36), none, .q (.ext 1 (.t 32)), []⟩,
    ⟨(some 11), none, .q (.mv (.t 35)), []⟩,
    ⟨(some 12), none, .q (.mv (.t 36)), []⟩]
def c49_18 : ACode := .ops [
    ⟨(some 38), none, .q (.mv (.t 9)), []⟩,
    ⟨(some 39), none, .q (.mv (.t 11)), []⟩,
    ⟨(some 40), none, .e (.call 74 [(.t 38), (.t 39)]), []⟩,
    ⟨(some 37), none, .q (.mv (.t 40)), []⟩,
    ⟨(some 41), none, .q (.ext 0 (.t 37)), []⟩,
    ⟨(some 42), none, .q (.ext 1 (.t 37)), []⟩,
    ⟨(some 13), none, .q (.mv (.t 41)), []⟩,
    ⟨(some 14), none, .q (.mv (.t 42)), []⟩]
def c49_19 : ACode := .ops [
    ⟨(some 43), none, .q (.mv (.t 14)), []⟩,
    ⟨(some 44), none, .q (.un .not (.t 43)), []⟩]
def c49_20 : ACode := .ops [
    ⟨(some 45), none, .q (.mki 39 (.v (.int .i64 2))), []⟩,
    ⟨(some 4), none, .q (.mv (.t 45)), []⟩]
def c49_21 : ACode := .seq c49_20 .ret
def c49_22 : ACode := .cond (.t 44) c49_21 .skip
def c49_23 : ACode := .seq c49_19 c49_22
def c49_24 : ACode := .ops [
    ⟨(some 46), none, .q (.mv (.t 13)), []⟩,
    ⟨(some 47), none, .e (.call 13 [(.t 46)]), []⟩,
    ⟨(some 5), none, .q (.mv (.t 47)), []⟩]
def c49_25 : ACode := .seq c49_23 c49_24
def c49_26 : ACode := .seq c49_18 c49_25
def c49_27 : ACode := .seq c49_17 c49_26
def c49_28 : ACode := .seq c49_16 c49_27
def c49_29 : ACode := .cond (.t 62) c49_15 c49_28
def c49_30 : ACode := .seq c49_14 c49_29
def c49_31 : ACode := .cond (.t 56) c49_13 c49_30
def c49_32 : ACode := .seq c49_12 c49_31
def c49_33 : ACode := .cond (.t 52) c49_11 c49_32
def c49_34 : ACode := .seq c49_10 c49_33
def c49_35 : ACode := .cond (.t 48) c49_9 c49_34
def c49_36 : ACode := .seq c49_7 c49_35
def c49_37 : ACode := .block 2 c49_36
def c49_38 : ACode := .seq c49_6 c49_37
def c49_39 : ACode := .seq c49_5 c49_38
def c49_40 : ACode := .block 1 c49_39
def c49_41 : ACode := .ops [
    ⟨(some 69), none, .q (.bin .add (.t 17) (.v (.int .i64 1))), []⟩,
    ⟨(some 17), none, .q (.mv (.t 69)), []⟩]
def c49_42 : ACode := .seq c49_40 c49_41
def c49_43 : ACode := .seq c49_4 c49_42
def c49_44 : ACode := .seq c49_3 c49_43
def c49_45 : ACode := .loop c49_44
def c49_46 : ACode := .block 0 c49_45
def c49_47 : ACode := .seq c49_2 c49_46
def c49_48 : ACode := .ops [
    ⟨(some 70), none, .q (.mv (.t 5)), []⟩,
    ⟨(some 71), none, .e (.call 72 [(.t 70)]), []⟩,
    ⟨(some 72), none, .q (.ext 0 (.t 71)), []⟩,
    ⟨(some 73), none, .q (.ext 1 (.t 71)), []⟩,
    ⟨(some 74), none, .e (.call 34 [(.t 72), (.t 73)]), []⟩,
    ⟨(some 4), none, .q (.mv (.t 74)), []⟩]
def c49_49 : ACode := .seq c49_48 .ret
def c49_50 : ACode := .seq c49_47 c49_49
def c49_51 : ACode := .seq c49_1 c49_50
def c49_52 : ACode := .seq c49_0 c49_51
@[go_sem] theorem c49_0_wp : type_of% (wp_of c49_0.eq_1) := wp_of c49_0.eq_1
@[go_sem] theorem c49_1_wp : type_of% (wp_of c49_1.eq_1) := wp_of c49_1.eq_1
@[go_sem] theorem c49_2_wp : type_of% (wp_of c49_2.eq_1) := wp_of c49_2.eq_1
@[go_sem] theorem c49_3_wp : type_of% (wp_of c49_3.eq_1) := wp_of c49_3.eq_1
@[go_sem] theorem c49_4_wp : type_of% (wp_of c49_4.eq_1) := wp_of c49_4.eq_1
@[go_sem] theorem c49_5_wp : type_of% (wp_of c49_5.eq_1) := wp_of c49_5.eq_1
@[go_sem] theorem c49_6_wp : type_of% (wp_of c49_6.eq_1) := wp_of c49_6.eq_1
@[go_sem] theorem c49_7_wp : type_of% (wp_of c49_7.eq_1) := wp_of c49_7.eq_1
@[go_sem] theorem c49_8_wp : type_of% (wp_of c49_8.eq_1) := wp_of c49_8.eq_1
@[go_sem] theorem c49_9_wp : type_of% (wp_of c49_9.eq_1) := wp_of c49_9.eq_1
@[go_sem] theorem c49_10_wp : type_of% (wp_of c49_10.eq_1) := wp_of c49_10.eq_1
@[go_sem] theorem c49_11_wp : type_of% (wp_of c49_11.eq_1) := wp_of c49_11.eq_1
@[go_sem] theorem c49_12_wp : type_of% (wp_of c49_12.eq_1) := wp_of c49_12.eq_1
@[go_sem] theorem c49_13_wp : type_of% (wp_of c49_13.eq_1) := wp_of c49_13.eq_1
@[go_sem] theorem c49_14_wp : type_of% (wp_of c49_14.eq_1) := wp_of c49_14.eq_1
@[go_sem] theorem c49_15_wp : type_of% (wp_of c49_15.eq_1) := wp_of c49_15.eq_1
@[go_sem] theorem c49_16_wp : type_of% (wp_of c49_16.eq_1) := wp_of c49_16.eq_1
@[go_sem] theorem c49_17_wp : type_of% (wp_of c49_17.eq_1) := wp_of c49_17.eq_1
@[go_sem] theorem c49_18_wp : type_of% (wp_of c49_18.eq_1) := wp_of c49_18.eq_1
@[go_sem] theorem c49_19_wp : type_of% (wp_of c49_19.eq_1) := wp_of c49_19.eq_1
@[go_sem] theorem c49_20_wp : type_of% (wp_of c49_20.eq_1) := wp_of c49_20.eq_1
@[go_sem] theorem c49_21_wp : type_of% (wp_of c49_21.eq_1) := wp_of c49_21.eq_1
@[go_sem] theorem c49_22_wp : type_of% (wp_of c49_22.eq_1) := wp_of c49_22.eq_1
@[go_sem] theorem c49_23_wp : type_of% (wp_of c49_23.eq_1) := wp_of c49_23.eq_1
@[go_sem] theorem c49_24_wp : type_of% (wp_of c49_24.eq_1) := wp_of c49_24.eq_1
@[go_sem] theorem c49_25_wp : type_of% (wp_of c49_25.eq_1) := wp_of c49_25.eq_1
@[go_sem] theorem c49_26_wp : type_of% (wp_of c49_26.eq_1) := wp_of c49_26.eq_1
@[go_sem] theorem c49_27_wp : type_of% (wp_of c49_27.eq_1) := wp_of c49_27.eq_1
@[go_sem] theorem c49_28_wp : type_of% (wp_of c49_28.eq_1) := wp_of c49_28.eq_1
@[go_sem] theorem c49_29_wp : type_of% (wp_of c49_29.eq_1) := wp_of c49_29.eq_1
@[go_sem] theorem c49_30_wp : type_of% (wp_of c49_30.eq_1) := wp_of c49_30.eq_1
@[go_sem] theorem c49_31_wp : type_of% (wp_of c49_31.eq_1) := wp_of c49_31.eq_1
@[go_sem] theorem c49_32_wp : type_of% (wp_of c49_32.eq_1) := wp_of c49_32.eq_1
@[go_sem] theorem c49_33_wp : type_of% (wp_of c49_33.eq_1) := wp_of c49_33.eq_1
@[go_sem] theorem c49_34_wp : type_of% (wp_of c49_34.eq_1) := wp_of c49_34.eq_1
@[go_sem] theorem c49_35_wp : type_of% (wp_of c49_35.eq_1) := wp_of c49_35.eq_1
@[go_sem] theorem c49_36_wp : type_of% (wp_of c49_36.eq_1) := wp_of c49_36.eq_1
@[go_sem] theorem c49_37_wp : type_of% (wp_of c49_37.eq_1) := wp_of c49_37.eq_1
@[go_sem] theorem c49_38_wp : type_of% (wp_of c49_38.eq_1) := wp_of c49_38.eq_1
@[go_sem] theorem c49_39_wp : type_of% (wp_of c49_39.eq_1) := wp_of c49_39.eq_1
@[go_sem] theorem c49_40_wp : type_of% (wp_of c49_40.eq_1) := wp_of c49_40.eq_1
@[go_sem] theorem c49_41_wp : type_of% (wp_of c49_41.eq_1) := wp_of c49_41.eq_1
@[go_sem] theorem c49_42_wp : type_of% (wp_of c49_42.eq_1) := wp_of c49_42.eq_1
@[go_sem] theorem c49_43_wp : type_of% (wp_of c49_43.eq_1) := wp_of c49_43.eq_1
@[go_sem] theorem c49_44_wp : type_of% (wp_of c49_44.eq_1) := wp_of c49_44.eq_1
@[go_sem] theorem c49_45_wp : type_of% (wp_of c49_45.eq_1) := wp_of c49_45.eq_1
@[go_sem] theorem c49_46_wp : type_of% (wp_of c49_46.eq_1) := wp_of c49_46.eq_1
@[go_sem] theorem c49_47_wp : type_of% (wp_of c49_47.eq_1) := wp_of c49_47.eq_1
@[go_sem] theorem c49_48_wp : type_of% (wp_of c49_48.eq_1) := wp_of c49_48.eq_1
@[go_sem] theorem c49_49_wp : type_of% (wp_of c49_49.eq_1) := wp_of c49_49.eq_1
@[go_sem] theorem c49_50_wp : type_of% (wp_of c49_50.eq_1) := wp_of c49_50.eq_1
@[go_sem] theorem c49_51_wp : type_of% (wp_of c49_51.eq_1) := wp_of c49_51.eq_1
@[go_sem] theorem c49_52_wp : type_of% (wp_of c49_52.eq_1) := wp_of c49_52.eq_1
def c49 : AFn := ⟨75, [.t 4], c49_52⟩
set_option maxRecDepth 100000 in
theorem c49_ok : compF Tryd.prog Tryd.f49 = some c49 := by kernel_rfl
theorem a49 {args : List AV} {σ : ASt} {R : AV → ASt → Prop} (hl : args.length ≤ 75) (h : c49_52.wp Tryd.prog (RetQ [.t 4] R) (init args) σ) : ACalls Tryd.prog 49 args σ R := acalls_of Tryd.func49 c49_ok hl h

/-! 59: tabular/token.Signs -/
def c59_0 : ACode := .ops [
    ⟨(some 2), none, .q (.mv (.v (.int .i64 0))), []⟩,
    ⟨(some 3), none, .q (.mv (.v (.bool false))), []⟩]
def c59_1 : ACode := .ops [
    ⟨(some 4), none, .q (.mv (.v (.int .i64 0))), []⟩]
def c59_2 : ACode := .ops [
    ⟨(some 9), none, .q (.mv (.t 0)), []⟩,
    ⟨(some 10), none, .e (.rng (.t 9)), []⟩]
def c59_3 : ACode := .ops [
    ⟨(some 11), none, .e (.nxt (.t 10)), []⟩,
    ⟨(some 12), none, .q (.ext 0 (.t 11)), []⟩]
def c59_4 : ACode := .cond (.t 12) .skip (.exit 0)
def c59_5 : ACode := .ops [
    ⟨(some 13), none, .q (.ext 1 (.t 11)), []⟩,
    ⟨(some 14), none, .q (.ext 2 (.t 11)), []⟩,
    ⟨(some 5), none, .q (.mv (.t 13)), []⟩,
    ⟨(some 6), none, .q (.mv (.t 14)), []⟩]
def c59_6 : ACode := .ops [
    ⟨(some 15), none, .q (.mv (.t 6)), []⟩,
    ⟨(some 16), none, .q (.bin .eql (.t 15) (.v (.int .i32 65533))), []⟩]
def c59_7 : ACode := .ops [
    ⟨(some 18), none, .q (.mv (.t 0)), []⟩,
    ⟨(some 19), none, .q (.mv (.t 5)), []⟩,
    ⟨(some 20), none, .q (.slfrom (true, 0) (.t 18) (.t 19)), []⟩,
    ⟨(some 21), none, .e (.call 85 [(.t 20)]), []⟩,
    ⟨(some 17), none, .q (.mv (.t 21)), []⟩,
    ⟨(some 22), none, .q (.ext 0 (.t 17)), []⟩,
    ⟨(some 23), none, .q (.ext 1 (.t 17)), []⟩,
    ⟨(some 7), none, .q (.mv (.t 22)), []⟩,
    ⟨(some 8), none, .q (.mv (.t 23)), []⟩]
def c59_8 : ACode := .ops [
    ⟨(some 24), none, .q (.mv (.t 8)), []⟩,
    ⟨(some 25), none, .q (.bin .eql (.t 24) (.v (.int .i64 1))), []⟩]
def c59_9 : ACode := .ops [
    ⟨(some 2), none, .q (.mv (.v (.int .i64 0))), []⟩,
    ⟨(some 3), none, .q (.mv (.v (.bool false))), []⟩]
def c59_10 : ACode := .seq c59_9 .ret
def c59_11 : ACode := .cond (.t 25) c59_10 .skip
def c59_12 : ACode := .seq c59_8 c59_11
def c59_13 : ACode := .seq c59_7 c59_12
def c59_14 : ACode := .cond (.t 16) c59_13 .skip
def c59_15 : ACode := .seq c59_6 c59_14
def c59_16 : ACode := .ops [
    ⟨(some 26), none, .q (.mv (.t 4)), []⟩,
    ⟨(some 27), none, .q (.bin .add (.t 26) (.v (.int .i64 1))), []⟩,
    ⟨(some 4), none, .q (.mv (.t 27)), []⟩]
def c59_17 : ACode := .seq c59_15 c59_16
def c59_18 : ACode := .seq c59_5 c59_17
def c59_19 : ACode := .block 1 c59_18
def c59_20 : ACode := .seq c59_4 c59_19
def c59_21 : ACode := .seq c59_3 c59_20
def c59_22 : ACode := .loop c59_21
def c59_23 : ACode := .block 0 c59_22
def c59_24 : ACode := .seq c59_2 c59_23
def c59_25 : ACode := .ops [
    ⟨(some 28), none, .q (.mv (.t 4)), []⟩,
    ⟨(some 2), none, .q (.mv (.t 28)), []⟩,
    ⟨(some 3), none, .q (.mv (.v (.bool true))), []⟩]
def c59_26 : ACode := .seq c59_25 .ret
def c59_27 : ACode := .seq c59_24 c59_26
def c59_28 : ACode := .seq c59_1 c59_27
def c59_29 : ACode := .seq c59_0 c59_28
@[go_sem] theorem c59_0_wp : type_of% (wp_of c59_0.eq_1) := wp_of c59_0.eq_1
@[go_sem] theorem c59_1_wp : type_of% (wp_of c59_1.eq_1) := wp_of c59_1.eq_1
@[go_sem] theorem c59_2_wp : type_of% (wp_of c59_2.eq_1) := wp_of c59_2.eq_1
@[go_sem] theorem c59_3_wp : type_of% (wp_of c59_3.eq_1) := wp_of c59_3.eq_1
@[go_sem] theorem c59_4_wp : type_of% (wp_of c59_4.eq_1) := wp_of c59_4.eq_1
@[go_sem] theorem c59_5_wp : type_of% (wp_of c59_5.eq_1) := wp_of c59_5.eq_1
@[go_sem] theorem c59_6_wp : type_of% (wp_of c59_6.eq_1) := wp_of c59_6.eq_1
@[go_sem] theorem c59_7_wp : type_of% (wp_of c59_7.eq_1) := wp_of c59_7.eq_1
@[go_sem] theorem c59_8_wp : type_of% (wp_of c59_8.eq_1) := wp_of c59_8.eq_1
@[go_sem] theorem c59_9_wp : type_of% (wp_of c59_9.eq_1) := wp_of c59_9.eq_1
@[go_sem] theorem c59_10_wp : type_of% (wp_of c59_10.eq_1) := wp_of c59_10.eq_1
@[go_sem] theorem c59_11_wp : type_of% (wp_of c59_11.eq_1) := wp_of c59_11.eq_1
@[go_sem] theorem c59_12_wp : type_of% (wp_of c59_12.eq_1) := wp_of c59_12.eq_1
@[go_sem] theorem c59_13_wp : type_of% (wp_of c59_13.eq_1) := wp_of c59_13.eq_1
@[go_sem] theorem c59_14_wp : type_of% (wp_of c59_14.eq_1) := wp_of c59_14.eq_1
@[go_sem] theorem c59_15_wp : type_of% (wp_of c59_15.eq_1) := wp_of c59_15.eq_1
@[go_sem] theorem c59_16_wp : type_of% (wp_of c59_16.eq_1) := wp_of c59_16.eq_1
@[go_sem] theorem c59_17_wp : type_of% (wp_of c59_17.eq_1) := wp_of c59_17.eq_1
@[go_sem] theorem c59_18_wp : type_of% (wp_of c59_18.eq_1) := wp_of c59_18.eq_1
@[go_sem] theorem c59_19_wp : type_of% (wp_of c59_19.eq_1) := wp_of c59_19.eq_1
@[go_sem] theorem c59_20_wp : type_of% (wp_of c59_20.eq_1) := wp_of c59_20.eq_1
@[go_sem] theorem c59_21_wp : type_of% (wp_of c59_21.eq_1) := wp_of c59_21.eq_1
@[go_sem] theorem c59_22_wp : type_of% (wp_of c59_22.eq_1) := wp_of c59_22.eq_1
@[go_sem] theorem c59_23_wp : type_of% (wp_of c59_23.eq_1) := wp_of c59_23.eq_1
@[go_sem] theorem c59_24_wp : type_of% (wp_of c59_24.eq_1) := wp_of c59_24.eq_1
@[go_sem] theorem c59_25_wp : type_of% (wp_of c59_25.eq_1) := wp_of c59_25.eq_1
@[go_sem] theorem c59_26_wp : type_of% (wp_of c59_26.eq_1) := wp_of c59_26.eq_1
@[go_sem] theorem c59_27_wp : type_of% (wp_of c59_27.eq_1) := wp_of c59_27.eq_1
@[go_sem] theorem c59_28_wp : type_of% (wp_of c59_28.eq_1) := wp_of c59_28.eq_1
@[go_sem] theorem c59_29_wp : type_of% (wp_of c59_29.eq_1) := wp_of c59_29.eq_1
def c59 : AFn := ⟨29, [.t 2, .t 3], c59_29⟩
set_option maxRecDepth 100000 in
theorem c59_ok : compF Tryd.prog Tryd.f59 = some c59 := by kernel_rfl
theorem a59 {args : List AV} {σ : ASt} {R : AV → ASt → Prop} (hl : args.length ≤ 29) (h : c59_29.wp Tryd.prog (RetQ [.t 2, .t 3] R) (init args) σ) : ACalls Tryd.prog 59 args σ R := acalls_of Tryd.func59 c59_ok hl h

/-! 60: tabular/token.Errors -/
def c60_0 : ACode := .ops [
    ⟨(some 0), none, .q (.mv (.v (.sl .full []))), []⟩]
def c60_1 : ACode := .ops [
    ⟨(some 1), none, .q (.bsl 1 [(.v (.str [35, 68, 73, 86, 47, 48, 33])), (.v (.str [35, 78, 85, 77, 33])), (.v (.str [35, 86, 65, 76, 85, 69, 33])), (.v (.str [35, 82, 69, 70, 33])), (.v (.str [35, 78, 47, 65])), (.v (.str [35, 78, 65, 77, 69, 63])), (.v (.str [35, 67, 89, 67, 76, 69, 33]))]), []⟩,
    ⟨(some 0), none, .q (.mv (.t 1)), []⟩]
def c60_2 : ACode := .seq c60_1 .ret
def c60_3 : ACode := .seq c60_0 c60_2
@[go_sem] theorem c60_0_wp : type_of% (wp_of c60_0.eq_1) := wp_of c60_0.eq_1
@[go_sem] theorem c60_1_wp : type_of% (wp_of c60_1.eq_1) := wp_of c60_1.eq_1
@[go_sem] theorem c60_2_wp : type_of% (wp_of c60_2.eq_1) := wp_of c60_2.eq_1
@[go_sem] theorem c60_3_wp : type_of% (wp_of c60_3.eq_1) := wp_of c60_3.eq_1
def c60 : AFn := ⟨2, [.t 0], c60_3⟩
set_option maxRecDepth 100000 in
theorem c60_ok : compF Tryd.prog Tryd.f60 = some c60 := by kernel_rfl
theorem a60 {args : List AV} {σ : ASt} {R : AV → ASt → Prop} (hl : args.length ≤ 2) (h : c60_3.wp Tryd.prog (RetQ [.t 0] R) (init args) σ) : ACalls Tryd.prog 60 args σ R := acalls_of Tryd.func60 c60_ok hl h

/-! 69: tabular/maths.unit -/
def c69_0 : ACode := .ops [
    ⟨(some 2), none, .q (.mv (.v (.int .i64 0))), []⟩]
def c69_1 : ACode := .ops [
    ⟨(some 3), none, .q (.mv (.v (.int .i64 10000))), []⟩]
def c69_2 : ACode := .ops [
    ⟨(some 4), none, .q (.mv (.t 0)), []⟩,
    ⟨(some 5), none, .q (.mv (.v (.int .i64 0))), []⟩]
def c69_3 : ACode := .ops [
    ⟨(some 6), none, .q (.bin .lss (.t 5) (.t 4)), []⟩]
def c69_4 : ACode := .cond (.t 6) .skip (.exit 0)
def c69_5 : ACode := .ops [
    ⟨(some 7), none, .q (.mv (.t 3)), []⟩,
    ⟨(some 8), none, .q (.bin .quo (.t 7) (.v (.int .i64 10))), []⟩,
    ⟨(some 3), none, .q (.mv (.t 8)), []⟩]
def c69_6 : ACode := .block 1 c69_5
def c69_7 : ACode := .ops [
    ⟨(some 9), none, .q (.bin .add (.t 5) (.v (.int .i64 1))), []⟩,
    ⟨(some 5), none, .q (.mv (.t 9)), []⟩]
def c69_8 : ACode := .seq c69_6 c69_7
def c69_9 : ACode := .seq c69_4 c69_8
def c69_10 : ACode := .seq c69_3 c69_9
def c69_11 : ACode := .loop c69_10
def c69_12 : ACode := .block 0 c69_11
def c69_13 : ACode := .seq c69_2 c69_12
def c69_14 : ACode := .ops [
    ⟨(some 10), none, .q (.mv (.t 3)), []⟩,
    ⟨(some 2), none, .q (.mv (.t 10)), []⟩]
def c69_15 : ACode := .seq c69_14 .ret
def c69_16 : ACode := .seq c69_13 c69_15
def c69_17 : ACode := .seq c69_1 c69_16
def c69_18 : ACode := .seq c69_0 c69_17
@[go_sem] theorem c69_0_wp : type_of% (wp_of c69_0.eq_1) := wp_of c69_0.eq_1
@[go_sem] theorem c69_1_wp : type_of% (wp_of c69_1.eq_1) := wp_of c69_1.eq_1
@[go_sem] theorem c69_2_wp : type_of% (wp_of c69_2.eq_1) := wp_of c69_2.eq_1
@[go_sem] theorem c69_3_wp : type_of% (wp_of c69_3.eq_1) := wp_of c69_3.eq_1
@[go_sem] theorem c69_4_wp : type_of% (wp_of c69_4.eq_1) := wp_of c69_4.eq_1
@[go_sem] theorem c69_5_wp : type_of% (wp_of c69_5.eq_1) := wp_of c69_5.eq_1
@[go_sem] theorem c69_6_wp : type_of% (wp_of c69_6.eq_1) := wp_of c69_6.eq_1
@[go_sem] theorem c69_7_wp : type_of% (wp_of c69_7.eq_1) := wp_of c69_7.eq_1
@[go_sem] theorem c69_8_wp : type_of% (wp_of c69_8.eq_1) := wp_of c69_8.eq_1
@[go_sem] theorem c69_9_wp : type_of% (wp_of c69_9.eq_1) := wp_of c69_9.eq_1
@[go_sem] theorem c69_10_wp : type_of% (wp_of c69_10.eq_1) := wp_of c69_10.eq_1
@[go_sem] theorem c69_11_wp : type_of% (wp_of c69_11.eq_1) := wp_of c69_11.eq_1
@[go_sem] theorem c69_12_wp : type_of% (wp_of c69_12.eq_1) := wp_of c69_12.eq_1
@[go_sem] theorem c69_13_wp : type_of% (wp_of c69_13.eq_1) := wp_of c69_13.eq_1
@[go_sem] theorem c69_14_wp : type_of% (wp_of c69_14.eq_1) := wp_of c69_14.eq_1
@[go_sem] theorem c69_15_wp : type_of% (wp_of c69_15.eq_1) := wp_of c69_15.eq_1
@[go_sem] theorem c69_16_wp : type_of% (wp_of c69_16.eq_1) := wp_of c69_16.eq_1
@[go_sem] theorem c69_17_wp : type_of% (wp_of c69_17.eq_1) := wp_of c69_17.eq_1
@[go_sem] theorem c69_18_wp : type_of% (wp_of c69_18.eq_1) := wp_of c69_18.eq_1
def c69 : AFn := ⟨11, [.t 2], c69_18⟩
set_option maxRecDepth 100000 in
theorem c69_ok : compF Tryd.prog Tryd.f69 = some c69 := by kernel_rfl
theorem a69 {args : List AV} {σ : ASt} {R : AV → ASt → Prop} (hl : args.length ≤ 11) (h : c69_18.wp Tryd.prog (RetQ [.t 2] R) (init args) σ) : ACalls Tryd.prog 69 args σ R := acalls_of Tryd.func69 c69_ok hl h

/-! 75: tabular/maths.divisor -/
def c75_0 : ACode := .ops [
    ⟨(some 4), none, .q (.mv (.v (.int .i64 0))), []⟩]
def c75_1 : ACode := .ops [
    ⟨(some 5), none, .q (.mv (.t 1)), []⟩,
    ⟨(some 6), none, .q (.bin .gtr (.t 5) (.v (.int .i64 0))), []⟩]
def c75_2 : ACode := .cond (.t 6) .skip (.exit 0)
def c75_3 : ACode := .seq c75_1 c75_2
def c75_4 : ACode := .ops [
    ⟨(some 7), none, .q (.mv (.t 1)), []⟩,
    ⟨(some 8), none, .q (.mv (.t 0)), []⟩,
    ⟨(some 9), none, .q (.mv (.t 1)), []⟩,
    ⟨(some 10), none, .q (.bin .rem (.t 8) (.t 9)), []⟩,
    ⟨(some 0), none, .q (.mv (.t 7)), []⟩,
    ⟨(some 1), none, .q (.mv (.t 10)), []⟩]
def c75_5 : ACode := .block 1 c75_4
def c75_6 : ACode := .seq c75_3 c75_5
def c75_7 : ACode := .loop c75_6
def c75_8 : ACode := .block 0 c75_7
def c75_9 : ACode := .ops [
    ⟨(some 11), none, .q (.mv (.t 0)), []⟩,
    ⟨(some 4), none, .q (.mv (.t 11)), []⟩]
def c75_10 : ACode := .seq c75_9 .ret
def c75_11 : ACode := .seq c75_8 c75_10
def c75_12 : ACode := .seq c75_0 c75_11
@[go_sem] theorem c75_0_wp : type_of% (wp_of c75_0.eq_1) := wp_of c75_0.eq_1
@[go_sem] theorem c75_1_wp : type_of% (wp_of c75_1.eq_1) := wp_of c75_1.eq_1
@[go_sem] theorem c75_2_wp : type_of% (wp_of c75_2.eq_1) := wp_of c75_2.eq_1
@[go_sem] theorem c75_3_wp : type_of% (wp_of c75_3.eq_1) := wp_of c75_3.eq_1
@[go_sem] theorem c75_4_wp : type_of% (wp_of c75_4.eq_1) := wp_of c75_4.eq_1
@[go_sem] theorem c75_5_wp : type_of% (wp_of c75_5.eq_1) := wp_of c75_5.eq_1
@[go_sem] theorem c75_6_wp : type_of% (wp_of c75_6.eq_1) := wp_of c75_6.eq_1
@[go_sem] theorem c75_7_wp : type_of% (wp_of c75_7.eq_1) := wp_of c75_7.eq_1
@[go_sem] theorem c75_8_wp : type_of% (wp_of c75_8.eq_1) := wp_of c75_8.eq_1
@[go_sem] theorem c75_9_wp : type_of% (wp_of c75_9.eq_1) := wp_of c75_9.eq_1
@[go_sem] theorem c75_10_wp : type_of% (wp_of c75_10.eq_1) := wp_of c75_10.eq_1
@[go_sem] theorem c75_11_wp : type_of% (wp_of c75_11.eq_1) := wp_of c75_11.eq_1
@[go_sem] theorem c75_12_wp : type_of% (wp_of c75_12.eq_1) := wp_of c75_12.eq_1
def c75 : AFn := ⟨12, [.t 4], c75_12⟩
set_option maxRecDepth 100000 in
theorem c75_ok : compF Tryd.prog Tryd.f75 = some c75 := by kernel_rfl
theorem a75 {args : List AV} {σ : ASt} {R : AV → ASt → Prop} (hl : args.length ≤ 12) (h : c75_12.wp Tryd.prog (RetQ [.t 4] R) (init args) σ) : ACalls Tryd.prog 75 args σ R := acalls_of Tryd.func75 c75_ok hl h

end Go.A
