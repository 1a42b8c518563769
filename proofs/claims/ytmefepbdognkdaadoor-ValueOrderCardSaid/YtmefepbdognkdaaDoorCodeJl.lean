/- The functions, compiled: by program (wip/gencode.py). -/
import Derived.Test.YtmefepbdognkdaaDoorBk
import Derived.Test.YtmefepbdognkdaaDoorProg
import Derived.KernelRfl
namespace Go.A
open Go.Proofs

/-! 24: tabular/value.Compare -/
def c24_0 : ACode := .ops [
    ⟨(some 4), none, .q (.mv (.v (.int .i64 0))), []⟩]
def c24_1 : ACode := .ops [
    ⟨(some 13), none, .q (.mv (.t 0)), []⟩,
    ⟨(some 14), none, .q (.mv (.t 1)), []⟩,
    ⟨(some 15), none, .e (.call 55 [(.t 13), (.t 14)]), []⟩,
    ⟨(some 16), none, .q (.mv (.t 1)), []⟩,
    ⟨(some 17), none, .q (.mv (.t 0)), []⟩,
    ⟨(some 18), none, .e (.call 55 [(.t 16), (.t 17)]), []⟩,
    ⟨(some 0), none, .q (.mv (.t 15)), []⟩,
    ⟨(some 1), none, .q (.mv (.t 18)), []⟩]
def c24_2 : ACode := .ops [
    ⟨(some 19), none, .q (.mv (.t 0)), []⟩,
    ⟨(some 20), none, .e (.call 56 [(.t 19)]), []⟩,
    ⟨(some 21), none, .q (.mv (.t 1)), []⟩,
    ⟨(some 22), none, .e (.call 56 [(.t 21)]), []⟩,
    ⟨(some 23), none, .q (.bin .sub (.t 20) (.t 22)), []⟩,
    ⟨(some 5), none, .q (.mv (.t 23)), []⟩]
def c24_3 : ACode := .ops [
    ⟨(some 24), none, .q (.mv (.t 5)), []⟩,
    ⟨(some 25), none, .q (.bin .neq (.t 24) (.v (.int .i64 0))), []⟩]
def c24_4 : ACode := .ops [
    ⟨(some 26), none, .q (.mv (.t 5)), []⟩,
    ⟨(some 27), none, .q (.mnx false (.t 26) (.v (.int .i64 1))), []⟩,
    ⟨(some 28), none, .q (.mnx true (.t 27) (.v (.int .i64 (-1)))), []⟩,
    ⟨(some 4), none, .q (.mv (.t 28)), []⟩]
def c24_5 : ACode := .seq c24_4 .ret
def c24_6 : ACode := .cond (.t 25) c24_5 .skip
def c24_7 : ACode := .seq c24_3 c24_6
def c24_8 : ACode := .seq c24_2 c24_7
def c24_9 : ACode := .ops [
    ⟨(some 29), none, .q (.mv (.t 0)), []⟩]
def c24_10 : ACode := .ops [
    ⟨(some 30), none, .q (.ta 67 (.str []) true (.t 29)), []⟩,
    ⟨(some 31), none, .q (.ext 1 (.t 30)), []⟩,
    ⟨(some 32), none, .q (.ext 0 (.t 30)), []⟩]
def c24_11 : ACode := .ops [
    ⟨(some 6), none, .q (.mv (.t 32)), []⟩]
def c24_12 : ACode := .ops [
    ⟨(some 33), none, .q (.mv (.t 6)), []⟩,
    ⟨(some 35), none, .q (.mv (.t 1)), []⟩,
    ⟨(some 36), none, .q (.ta 67 (.str []) false (.t 35)), []⟩,
    ⟨(some 34), none, .e (.call 58 [(.t 33)]), []⟩,
    ⟨(some 37), none, .e (.call 58 [(.t 36)]), []⟩,
    ⟨(some 38), none, .e (.call 57 [(.t 34), (.t 37)]), []⟩,
    ⟨(some 4), none, .q (.mv (.t 38)), []⟩]
def c24_13 : ACode := .seq c24_12 .ret
def c24_14 : ACode := .seq c24_11 c24_13
def c24_15 : ACode := .ops [
    ⟨(some 39), none, .q (.ta 66 (.bool false) true (.t 29)), []⟩,
    ⟨(some 40), none, .q (.ext 1 (.t 39)), []⟩,
    ⟨(some 41), none, .q (.ext 0 (.t 39)), []⟩]
def c24_16 : ACode := .ops [
    ⟨(some 7), none, .q (.mv (.t 41)), []⟩]
def c24_17 : ACode := .ops [
    ⟨(some 42), none, .q (.mv (.t 1)), []⟩,
    ⟨(some 43), none, .q (.ta 66 (.bool false) false (.t 42)), []⟩,
    ⟨(some 8), none, .q (.mv (.t 43)), []⟩]
def c24_18 : ACode := .ops [
    ⟨(some 45), none, .q (.mv (.t 7)), []⟩,
    ⟨(some 46), none, .q (.mv (.t 8)), []⟩,
    ⟨(some 47), none, .q (.eq .b false (.t 45) (.t 46)), []⟩,
    ⟨(some 44), none, .q (.mv (.t 47)), []⟩]
def c24_19 : ACode := .ops [
    ⟨(some 4), none, .q (.mv (.v (.int .i64 0))), []⟩]
def c24_20 : ACode := .seq c24_19 .ret
def c24_21 : ACode := .ops [
    ⟨(some 49), none, .q (.mv (.t 8)), []⟩,
    ⟨(some 48), none, .q (.mv (.t 49)), []⟩]
def c24_22 : ACode := .ops [
    ⟨(some 4), none, .q (.mv (.v (.int .i64 (-1)))), []⟩]
def c24_23 : ACode := .seq c24_22 .ret
def c24_24 : ACode := .cond (.t 48) c24_23 .skip
def c24_25 : ACode := .seq c24_21 c24_24
def c24_26 : ACode := .cond (.t 44) c24_20 c24_25
def c24_27 : ACode := .seq c24_18 c24_26
def c24_28 : ACode := .block 1 c24_27
def c24_29 : ACode := .ops [
    ⟨(some 4), none, .q (.mv (.v (.int .i64 1))), []⟩]
def c24_30 : ACode := .seq c24_29 .ret
def c24_31 : ACode := .seq c24_28 c24_30
def c24_32 : ACode := .seq c24_17 c24_31
def c24_33 : ACode := .seq c24_16 c24_32
def c24_34 : ACode := .cond (.t 40) c24_33 .skip
def c24_35 : ACode := .seq c24_15 c24_34
def c24_36 : ACode := .cond (.t 31) c24_14 c24_35
def c24_37 : ACode := .seq c24_10 c24_36
def c24_38 : ACode := .block 0 c24_37
def c24_39 : ACode := .seq c24_9 c24_38
def c24_40 : ACode := .ops [
    ⟨(some 51), none, .q (.mv (.t 0)), []⟩,
    ⟨(some 52), none, .e (.call 26 [(.t 51)]), []⟩,
    ⟨(some 50), none, .q (.mv (.t 52)), []⟩,
    ⟨(some 53), none, .q (.ext 0 (.t 50)), []⟩,
    ⟨(some 54), none, .q (.ext 1 (.t 50)), []⟩,
    ⟨(some 9), none, .q (.mv (.t 53)), []⟩,
    ⟨(some 10), none, .q (.mv (.t 54)), []⟩]
def c24_41 : ACode := .ops [
    ⟨(some 56), none, .q (.mv (.t 1)), []⟩,
    ⟨(some 57), none, .e (.call 26 [(.t 56)]), []⟩,
    ⟨(some 55), none, .q (.mv (.t 57)), []⟩,
    ⟨(some 58), none, .q (.ext 0 (.t 55)), []⟩,
    ⟨(some 59), none, .q (.ext 1 (.t 55)), []⟩,
    ⟨(some 11), none, .q (.mv (.t 58)), []⟩,
    ⟨(some 12), none, .q (.mv (.t 59)), []⟩]
def c24_42 : ACode := .ops [
    ⟨(some 61), none, .q (.mv (.t 9)), []⟩,
    ⟨(some 62), none, .q (.mv (.t 11)), []⟩,
    ⟨(some 63), none, .q (.bin .lss (.t 61) (.t 62)), []⟩,
    ⟨(some 60), none, .q (.mv (.t 63)), []⟩]
def c24_43 : ACode := .ops [
    ⟨(some 4), none, .q (.mv (.v (.int .i64 (-1)))), []⟩]
def c24_44 : ACode := .seq c24_43 .ret
def c24_45 : ACode := .ops [
    ⟨(some 65), none, .q (.mv (.t 9)), []⟩,
    ⟨(some 66), none, .q (.mv (.t 11)), []⟩,
    ⟨(some 67), none, .q (.bin .gtr (.t 65) (.t 66)), []⟩,
    ⟨(some 64), none, .q (.mv (.t 67)), []⟩]
def c24_46 : ACode := .ops [
    ⟨(some 4), none, .q (.mv (.v (.int .i64 1))), []⟩]
def c24_47 : ACode := .seq c24_46 .ret
def c24_48 : ACode := .cond (.t 64) c24_47 .skip
def c24_49 : ACode := .seq c24_45 c24_48
def c24_50 : ACode := .cond (.t 60) c24_44 c24_49
def c24_51 : ACode := .seq c24_42 c24_50
def c24_52 : ACode := .block 2 c24_51
def c24_53 : ACode := .ops [
    ⟨(some 4), none, .q (.mv (.v (.int .i64 0))), []⟩]
def c24_54 : ACode := .seq c24_53 .ret
def c24_55 : ACode := .seq c24_52 c24_54
def c24_56 : ACode := .seq c24_41 c24_55
def c24_57 : ACode := .seq c24_40 c24_56
def c24_58 : ACode := .seq c24_39 c24_57
def c24_59 : ACode := .seq c24_8 c24_58
def c24_60 : ACode := .seq c24_1 c24_59
def c24_61 : ACode := .seq c24_0 c24_60
@[go_sem] theorem c24_0_wp : type_of% (wp_of c24_0.eq_1) := wp_of c24_0.eq_1
@[go_sem] theorem c24_1_wp : type_of% (wp_of c24_1.eq_1) := wp_of c24_1.eq_1
@[go_sem] theorem c24_2_wp : type_of% (wp_of c24_2.eq_1) := wp_of c24_2.eq_1
@[go_sem] theorem c24_3_wp : type_of% (wp_of c24_3.eq_1) := wp_of c24_3.eq_1
@[go_sem] theorem c24_4_wp : type_of% (wp_of c24_4.eq_1) := wp_of c24_4.eq_1
@[go_sem] theorem c24_5_wp : type_of% (wp_of c24_5.eq_1) := wp_of c24_5.eq_1
@[go_sem] theorem c24_6_wp : type_of% (wp_of c24_6.eq_1) := wp_of c24_6.eq_1
@[go_sem] theorem c24_7_wp : type_of% (wp_of c24_7.eq_1) := wp_of c24_7.eq_1
@[go_sem] theorem c24_8_wp : type_of% (wp_of c24_8.eq_1) := wp_of c24_8.eq_1
@[go_sem] theorem c24_9_wp : type_of% (wp_of c24_9.eq_1) := wp_of c24_9.eq_1
@[go_sem] theorem c24_10_wp : type_of% (wp_of c24_10.eq_1) := wp_of c24_10.eq_1
@[go_sem] theorem c24_11_wp : type_of% (wp_of c24_11.eq_1) := wp_of c24_11.eq_1
@[go_sem] theorem c24_12_wp : type_of% (wp_of c24_12.eq_1) := wp_of c24_12.eq_1
@[go_sem] theorem c24_13_wp : type_of% (wp_of c24_13.eq_1) := wp_of c24_13.eq_1
@[go_sem] theorem c24_14_wp : type_of% (wp_of c24_14.eq_1) := wp_of c24_14.eq_1
@[go_sem] theorem c24_15_wp : type_of% (wp_of c24_15.eq_1) := wp_of c24_15.eq_1
@[go_sem] theorem c24_16_wp : type_of% (wp_of c24_16.eq_1) := wp_of c24_16.eq_1
@[go_sem] theorem c24_17_wp : type_of% (wp_of c24_17.eq_1) := wp_of c24_17.eq_1
@[go_sem] theorem c24_18_wp : type_of% (wp_of c24_18.eq_1) := wp_of c24_18.eq_1
@[go_sem] theorem c24_19_wp : type_of% (wp_of c24_19.eq_1) := wp_of c24_19.eq_1
@[go_sem] theorem c24_20_wp : type_of% (wp_of c24_20.eq_1) := wp_of c24_20.eq_1
@[go_sem] theorem c24_21_wp : type_of% (wp_of c24_21.eq_1) := wp_of c24_21.eq_1
@[go_sem] theorem c24_22_wp : type_of% (wp_of c24_22.eq_1) := wp_of c24_22.eq_1
@[go_sem] theorem c24_23_wp : type_of% (wp_of c24_23.eq_1) := wp_of c24_23.eq_1
@[go_sem] theorem c24_24_wp : type_of% (wp_of c24_24.eq_1) := wp_of c24_24.eq_1
@[go_sem] theorem c24_25_wp : type_of% (wp_of c24_25.eq_1) := wp_of c24_25.eq_1
@[go_sem] theorem c24_26_wp : type_of% (wp_of c24_26.eq_1) := wp_of c24_26.eq_1
@[go_sem] theorem c24_27_wp : type_of% (wp_of c24_27.eq_1) := wp_of c24_27.eq_1
@[go_sem] theorem c24_28_wp : type_of% (wp_of c24_28.eq_1) := wp_of c24_28.eq_1
@[go_sem] theorem c24_29_wp : type_of% (wp_of c24_29.eq_1) := wp_of c24_29.eq_1
@[go_sem] theorem c24_30_wp : type_of% (wp_of c24_30.eq_1) := wp_of c24_30.eq_1
@[go_sem] theorem c24_31_wp : type_of% (wp_of c24_31.eq_1) := wp_of c24_31.eq_1
@[go_sem] theorem c24_32_wp : type_of% (wp_of c24_32.eq_1) := wp_of c24_32.eq_1
@[go_sem] theorem c24_33_wp : type_of% (wp_of c24_33.eq_1) := wp_of c24_33.eq_1
@[go_sem] theorem c24_34_wp : type_of% (wp_of c24_34.eq_1) := wp_of c24_34.eq_1
@[go_sem] theorem c24_35_wp : type_of% (wp_of c24_35.eq_1) := wp_of c24_35.eq_1
@[go_sem] theorem c24_36_wp : type_of% (wp_of c24_36.eq_1) := wp_of c24_36.eq_1
@[go_sem] theorem c24_37_wp : type_of% (wp_of c24_37.eq_1) := wp_of c24_37.eq_1
@[go_sem] theorem c24_38_wp : type_of% (wp_of c24_38.eq_1) := wp_of c24_38.eq_1
@[go_sem] theorem c24_39_wp : type_of% (wp_of c24_39.eq_1) := wp_of c24_39.eq_1
@[go_sem] theorem c24_40_wp : type_of% (wp_of c24_40.eq_1) := wp_of c24_40.eq_1
@[go_sem] theorem c24_41_wp : type_of% (wp_of c24_41.eq_1) := wp_of c24_41.eq_1
@[go_sem] theorem c24_42_wp : type_of% (wp_of c24_42.eq_1) := wp_of c24_42.eq_1
@[go_sem] theorem c24_43_wp : type_of% (wp_of c24_43.eq_1) := wp_of c24_43.eq_1
@[go_sem] theorem c24_44_wp : type_of% (wp_of c24_44.eq_1) := wp_of c24_44.eq_1
@[go_sem] theorem c24_45_wp : type_of% (wp_of c24_45.eq_1) := wp_of c24_45.eq_1
@[go_sem] theorem c24_46_wp : type_of% (wp_of c24_46.eq_1) := wp_of c24_46.eq_1
@[go_sem] theorem c24_47_wp : type_of% (wp_of c24_47.eq_1) := wp_of c24_47.eq_1
@[go_sem] theorem c24_48_wp : type_of% (wp_of c24_48.eq_1) := wp_of c24_48.eq_1
@[go_sem] theorem c24_49_wp : type_of% (wp_of c24_49.eq_1) := wp_of c24_49.eq_1
@[go_sem] theorem c24_50_wp : type_of% (wp_of c24_50.eq_1) := wp_of c24_50.eq_1
@[go_sem] theorem c24_51_wp : type_of% (wp_of c24_51.eq_1) := wp_of c24_51.eq_1
@[go_sem] theorem c24_52_wp : type_of% (wp_of c24_52.eq_1) := wp_of c24_52.eq_1
@[go_sem] theorem c24_53_wp : type_of% (wp_of c24_53.eq_1) := wp_of c24_53.eq_1
@[go_sem] theorem c24_54_wp : type_of% (wp_of c24_54.eq_1) := wp_of c24_54.eq_1
@[go_sem] theorem c24_55_wp : type_of% (wp_of c24_55.eq_1) := wp_of c24_55.eq_1
@[go_sem] theorem c24_56_wp : type_of% (wp_of c24_56.eq_1) := wp_of c24_56.eq_1
@[go_sem] theorem c24_57_wp : type_of% (wp_of c24_57.eq_1) := wp_of c24_57.eq_1
@[go_sem] theorem c24_58_wp : type_of% (wp_of c24_58.eq_1) := wp_of c24_58.eq_1
@[go_sem] theorem c24_59_wp : type_of% (wp_of c24_59.eq_1) := wp_of c24_59.eq_1
@[go_sem] theorem c24_60_wp : type_of% (wp_of c24_60.eq_1) := wp_of c24_60.eq_1
@[go_sem] theorem c24_61_wp : type_of% (wp_of c24_61.eq_1) := wp_of c24_61.eq_1
def c24 : AFn := ⟨68, [.t 4], c24_61⟩
set_option maxRecDepth 100000 in
theorem c24_ok : compF Tryd.prog Tryd.f24 = some c24 := by kernel_rfl
theorem a24 {args : List AV} {σ : ASt} {R : AV → ASt → Prop} (hl : args.length ≤ 68) (h : c24_61.wp Tryd.prog (RetQ [.t 4] R) (init args) σ) : ACalls Tryd.prog 24 args σ R := acalls_of Tryd.func24 c24_ok hl h

/-! 55: tabular/value.as -/
def c55_0 : ACode := .ops [
    ⟨(some 4), none, .q (.mv (.v .nili)), []⟩]
def c55_1 : ACode := .ops [
    ⟨(some 5), none, .q (.mv (.t 0)), []⟩,
    ⟨(some 6), none, .e (.call 83 [(.t 5)]), []⟩,
    ⟨(some 7), none, .q (.un .not (.t 6)), []⟩]
def c55_2 : ACode := .ops [
    ⟨(some 8), none, .q (.mv (.t 0)), []⟩,
    ⟨(some 4), none, .q (.mv (.t 8)), []⟩]
def c55_3 : ACode := .seq c55_2 .ret
def c55_4 : ACode := .cond (.t 7) c55_3 .skip
def c55_5 : ACode := .seq c55_1 c55_4
def c55_6 : ACode := .ops [
    ⟨(some 9), none, .q (.mv (.t 1)), []⟩]
def c55_7 : ACode := .ops [
    ⟨(some 10), none, .q (.ta 67 (.str []) true (.t 9)), []⟩,
    ⟨(some 11), none, .q (.ext 1 (.t 10)), []⟩,
    ⟨(some 12), none, .q (.ext 0 (.t 10)), []⟩]
def c55_8 : ACode := .ops [
    ⟨(some 13), none, .q (.mki 67 (.v (.str []))), []⟩,
    ⟨(some 4), none, .q (.mv (.t 13)), []⟩]
def c55_9 : ACode := .seq c55_8 .ret
def c55_10 : ACode := .ops [
    ⟨(some 14), none, .q (.ta 66 (.bool false) true (.t 9)), []⟩,
    ⟨(some 15), none, .q (.ext 1 (.t 14)), []⟩,
    ⟨(some 16), none, .q (.ext 0 (.t 14)), []⟩]
def c55_11 : ACode := .ops [
    ⟨(some 17), none, .q (.mki 66 (.v (.bool false))), []⟩,
    ⟨(some 4), none, .q (.mv (.t 17)), []⟩]
def c55_12 : ACode := .seq c55_11 .ret
def c55_13 : ACode := .cond (.t 15) c55_12 .skip
def c55_14 : ACode := .seq c55_10 c55_13
def c55_15 : ACode := .cond (.t 11) c55_9 c55_14
def c55_16 : ACode := .seq c55_7 c55_15
def c55_17 : ACode := .block 0 c55_16
def c55_18 : ACode := .seq c55_6 c55_17
def c55_19 : ACode := .ops [
    ⟨(some 18), none, .q (.mki 62 (.v (.int .i64 0))), []⟩,
    ⟨(some 4), none, .q (.mv (.t 18)), []⟩]
def c55_20 : ACode := .seq c55_19 .ret
def c55_21 : ACode := .seq c55_18 c55_20
def c55_22 : ACode := .seq c55_5 c55_21
def c55_23 : ACode := .seq c55_0 c55_22
@[go_sem] theorem c55_0_wp : type_of% (wp_of c55_0.eq_1) := wp_of c55_0.eq_1
@[go_sem] theorem c55_1_wp : type_of% (wp_of c55_1.eq_1) := wp_of c55_1.eq_1
@[go_sem] theorem c55_2_wp : type_of% (wp_of c55_2.eq_1) := wp_of c55_2.eq_1
@[go_sem] theorem c55_3_wp : type_of% (wp_of c55_3.eq_1) := wp_of c55_3.eq_1
@[go_sem] theorem c55_4_wp : type_of% (wp_of c55_4.eq_1) := wp_of c55_4.eq_1
@[go_sem] theorem c55_5_wp : type_of% (wp_of c55_5.eq_1) := wp_of c55_5.eq_1
@[go_sem] theorem c55_6_wp : type_of% (wp_of c55_6.eq_1) := wp_of c55_6.eq_1
@[go_sem] theorem c55_7_wp : type_of% (wp_of c55_7.eq_1) := wp_of c55_7.eq_1
@[go_sem] theorem c55_8_wp : type_of% (wp_of c55_8.eq_1) := wp_of c55_8.eq_1
@[go_sem] theorem c55_9_wp : type_of% (wp_of c55_9.eq_1) := wp_of c55_9.eq_1
@[go_sem] theorem c55_10_wp : type_of% (wp_of c55_10.eq_1) := wp_of c55_10.eq_1
@[go_sem] theorem c55_11_wp : type_of% (wp_of c55_11.eq_1) := wp_of c55_11.eq_1
@[go_sem] theorem c55_12_wp : type_of% (wp_of c55_12.eq_1) := wp_of c55_12.eq_1
@[go_sem] theorem c55_13_wp : type_of% (wp_of c55_13.eq_1) := wp_of c55_13.eq_1
@[go_sem] theorem c55_14_wp : type_of% (wp_of c55_14.eq_1) := wp_of c55_14.eq_1
@[go_sem] theorem c55_15_wp : type_of% (wp_of c55_15.eq_1) := wp_of c55_15.eq_1
@[go_sem] theorem c55_16_wp : type_of% (wp_of c55_16.eq_1) := wp_of c55_16.eq_1
@[go_sem] theorem c55_17_wp : type_of% (wp_of c55_17.eq_1) := wp_of c55_17.eq_1
@[go_sem] theorem c55_18_wp : type_of% (wp_of c55_18.eq_1) := wp_of c55_18.eq_1
@[go_sem] theorem c55_19_wp : type_of% (wp_of c55_19.eq_1) := wp_of c55_19.eq_1
@[go_sem] theorem c55_20_wp : type_of% (wp_of c55_20.eq_1) := wp_of c55_20.eq_1
@[go_sem] theorem c55_21_wp : type_of% (wp_of c55_21.eq_1) := wp_of c55_21.eq_1
@[go_sem] theorem c55_22_wp : type_of% (wp_of c55_22.eq_1) := wp_of c55_22.eq_1
@[go_sem] theorem c55_23_wp : type_of% (wp_of c55_23.eq_1) := wp_of c55_23.eq_1
def c55 : AFn := ⟨19, [.t 4], c55_23⟩
set_option maxRecDepth 100000 in
theorem c55_ok : compF Tryd.prog Tryd.f55 = some c55 := by kernel_rfl
theorem a55 {args : List AV} {σ : ASt} {R : AV → ASt → Prop} (hl : args.length ≤ 19) (h : c55_23.wp Tryd.prog (RetQ [.t 4] R) (init args) σ) : ACalls Tryd.prog 55 args σ R := acalls_of Tryd.func55 c55_ok hl h

/-! 56: tabular/value.rank -/
def c56_0 : ACode := .ops [
    ⟨(some 2), none, .q (.mv (.v (.int .i64 0))), []⟩]
def c56_1 : ACode := .ops [
    ⟨(some 3), none, .q (.mv (.t 0)), []⟩]
def c56_2 : ACode := .ops [
    ⟨(some 4), none, .q (.ta 67 (.str []) true (.t 3)), []⟩,
    ⟨(some 5), none, .q (.ext 1 (.t 4)), []⟩,
    ⟨(some 6), none, .q (.ext 0 (.t 4)), []⟩]
def c56_3 : ACode := .ops [
    ⟨(some 2), none, .q (.mv (.v (.int .i64 1))), []⟩]
def c56_4 : ACode := .seq c56_3 .ret
def c56_5 : ACode := .ops [
    ⟨(some 7), none, .q (.ta 66 (.bool false) true (.t 3)), []⟩,
    ⟨(some 8), none, .q (.ext 1 (.t 7)), []⟩,
    ⟨(some 9), none, .q (.ext 0 (.t 7)), []⟩]
def c56_6 : ACode := .ops [
    ⟨(some 2), none, .q (.mv (.v (.int .i64 2))), []⟩]
def c56_7 : ACode := .seq c56_6 .ret
def c56_8 : ACode := .cond (.t 8) c56_7 .skip
def c56_9 : ACode := .seq c56_5 c56_8
def c56_10 : ACode := .cond (.t 5) c56_4 c56_9
def c56_11 : ACode := .seq c56_2 c56_10
def c56_12 : ACode := .block 0 c56_11
def c56_13 : ACode := .seq c56_1 c56_12
def c56_14 : ACode := .ops [
    ⟨(some 2), none, .q (.mv (.v (.int .i64 0))), []⟩]
def c56_15 : ACode := .seq c56_14 .ret
def c56_16 : ACode := .seq c56_13 c56_15
def c56_17 : ACode := .seq c56_0 c56_16
@[go_sem] theorem c56_0_wp : type_of% (wp_of c56_0.eq_1) := wp_of c56_0.eq_1
@[go_sem] theorem c56_1_wp : type_of% (wp_of c56_1.eq_1) := wp_of c56_1.eq_1
@[go_sem] theorem c56_2_wp : type_of% (wp_of c56_2.eq_1) := wp_of c56_2.eq_1
@[go_sem] theorem c56_3_wp : type_of% (wp_of c56_3.eq_1) := wp_of c56_3.eq_1
@[go_sem] theorem c56_4_wp : type_of% (wp_of c56_4.eq_1) := wp_of c56_4.eq_1
@[go_sem] theorem c56_5_wp : type_of% (wp_of c56_5.eq_1) := wp_of c56_5.eq_1
@[go_sem] theorem c56_6_wp : type_of% (wp_of c56_6.eq_1) := wp_of c56_6.eq_1
@[go_sem] theorem c56_7_wp : type_of% (wp_of c56_7.eq_1) := wp_of c56_7.eq_1
@[go_sem] theorem c56_8_wp : type_of% (wp_of c56_8.eq_1) := wp_of c56_8.eq_1
@[go_sem] theorem c56_9_wp : type_of% (wp_of c56_9.eq_1) := wp_of c56_9.eq_1
@[go_sem] theorem c56_10_wp : type_of% (wp_of c56_10.eq_1) := wp_of c56_10.eq_1
@[go_sem] theorem c56_11_wp : type_of% (wp_of c56_11.eq_1) := wp_of c56_11.eq_1
@[go_sem] theorem c56_12_wp : type_of% (wp_of c56_12.eq_1) := wp_of c56_12.eq_1
@[go_sem] theorem c56_13_wp : type_of% (wp_of c56_13.eq_1) := wp_of c56_13.eq_1
@[go_sem] theorem c56_14_wp : type_of% (wp_of c56_14.eq_1) := wp_of c56_14.eq_1
@[go_sem] theorem c56_15_wp : type_of% (wp_of c56_15.eq_1) := wp_of c56_15.eq_1
@[go_sem] theorem c56_16_wp : type_of% (wp_of c56_16.eq_1) := wp_of c56_16.eq_1
@[go_sem] theorem c56_17_wp : type_of% (wp_of c56_17.eq_1) := wp_of c56_17.eq_1
def c56 : AFn := ⟨10, [.t 2], c56_17⟩
set_option maxRecDepth 100000 in
theorem c56_ok : compF Tryd.prog Tryd.f56 = some c56 := by kernel_rfl
theorem a56 {args : List AV} {σ : ASt} {R : AV → ASt → Prop} (hl : args.length ≤ 10) (h : c56_17.wp Tryd.prog (RetQ [.t 2] R) (init args) σ) : ACalls Tryd.prog 56 args σ R := acalls_of Tryd.func56 c56_ok hl h

/-! 58: tabular/value.Great -/
def c58_0 : ACode := .ops [
    ⟨(some 2), none, .q (.mv (.v (.str []))), []⟩]
def c58_1 : ACode := .ops [
    ⟨(some 6), none, .q (.mv (.t 0)), []⟩,
    ⟨(some 7), none, .e (.s2b (.t 6)), []⟩,
    ⟨(some 3), none, .q (.mv (.t 7)), []⟩]
def c58_2 : ACode := .ops [
    ⟨(some 8), none, .q (.mv (.t 3)), []⟩,
    ⟨(some 9), none, .q (.len (.t 8)), []⟩,
    ⟨(some 10), none, .q (.mv (.v (.int .i64 0))), []⟩]
def c58_3 : ACode := .ops [
    ⟨(some 11), none, .q (.bin .lss (.t 10) (.t 9)), []⟩]
def c58_4 : ACode := .cond (.t 11) .skip (.exit 0)
def c58_5 : ACode := .ops [
    ⟨(some 12), none, .q (.mv (.t 10)), []⟩,
    ⟨(some 13), none, .q (.ia 1 (.t 8) (.t 10)), []⟩,
    ⟨(some 14), none, .q (.ld none (.t 13)), []⟩,
    ⟨(some 4), none, .q (.mv (.t 12)), []⟩,
    ⟨(some 5), none, .q (.mv (.t 14)), []⟩]
def c58_6 : ACode := .ops [
    ⟨(some 15), none, .q (.mv (.t 5)), []⟩,
    ⟨(some 16), none, .q (.bin .geq (.t 15) (.v (.int .u8 97))), []⟩,
    ⟨(some 17), none, .q (.mv (.t 16)), []⟩,
    ⟨(some 18), (some (17, true)), .q (.mv (.t 5)), []⟩,
    ⟨(some 19), (some (17, true)), .q (.bin .leq (.t 18) (.v (.int .u8 122))), []⟩,
    ⟨(some 20), none, .q (.pick (.t 17) (.t 19) (.v (.bool false))), []⟩]
def c58_7 : ACode := .ops [
    ⟨(some 21), none, .q (.mv (.t 3)), []⟩,
    ⟨(some 22), none, .q (.mv (.t 4)), []⟩,
    ⟨(some 23), none, .q (.mv (.t 5)), []⟩,
    ⟨(some 24), none, .q (.bin .sub (.t 23) (.v (.int .u8 32))), []⟩,
    ⟨(some 25), none, .q (.ia 1 (.t 21) (.t 22)), []⟩,
    ⟨none, none, .e (.store 1 (.t 25) (.t 24)), []⟩]
def c58_8 : ACode := .cond (.t 20) c58_7 .skip
def c58_9 : ACode := .seq c58_6 c58_8
def c58_10 : ACode := .seq c58_5 c58_9
def c58_11 : ACode := .block 1 c58_10
def c58_12 : ACode := .ops [
    ⟨(some 26), none, .q (.bin .add (.t 10) (.v (.int .i64 1))), []⟩,
    ⟨(some 10), none, .q (.mv (.t 26)), []⟩]
def c58_13 : ACode := .seq c58_11 c58_12
def c58_14 : ACode := .seq c58_4 c58_13
def c58_15 : ACode := .seq c58_3 c58_14
def c58_16 : ACode := .loop c58_15
def c58_17 : ACode := .block 0 c58_16
def c58_18 : ACode := .seq c58_2 c58_17
def c58_19 : ACode := .ops [
    ⟨(some 27), none, .q (.mv (.t 3)), []⟩,
    ⟨(some 28), none, .q (.b2s (.t 27)), []⟩,
    ⟨(some 2), none, .q (.mv (.t 28)), []⟩]
def c58_20 : ACode := .seq c58_19 .ret
def c58_21 : ACode := .seq c58_18 c58_20
def c58_22 : ACode := .seq c58_1 c58_21
def c58_23 : ACode := .seq c58_0 c58_22
@[go_sem] theorem c58_0_wp : type_of% (wp_of c58_0.eq_1) := wp_of c58_0.eq_1
@[go_sem] theorem c58_1_wp : type_of% (wp_of c58_1.eq_1) := wp_of c58_1.eq_1
@[go_sem] theorem c58_2_wp : type_of% (wp_of c58_2.eq_1) := wp_of c58_2.eq_1
@[go_sem] theorem c58_3_wp : type_of% (wp_of c58_3.eq_1) := wp_of c58_3.eq_1
@[go_sem] theorem c58_4_wp : type_of% (wp_of c58_4.eq_1) := wp_of c58_4.eq_1
@[go_sem] theorem c58_5_wp : type_of% (wp_of c58_5.eq_1) := wp_of c58_5.eq_1
@[go_sem] theorem c58_6_wp : type_of% (wp_of c58_6.eq_1) := wp_of c58_6.eq_1
@[go_sem] theorem c58_7_wp : type_of% (wp_of c58_7.eq_1) := wp_of c58_7.eq_1
@[go_sem] theorem c58_8_wp : type_of% (wp_of c58_8.eq_1) := wp_of c58_8.eq_1
@[go_sem] theorem c58_9_wp : type_of% (wp_of c58_9.eq_1) := wp_of c58_9.eq_1
@[go_sem] theorem c58_10_wp : type_of% (wp_of c58_10.eq_1) := wp_of c58_10.eq_1
@[go_sem] theorem c58_11_wp : type_of% (wp_of c58_11.eq_1) := wp_of c58_11.eq_1
@[go_sem] theorem c58_12_wp : type_of% (wp_of c58_12.eq_1) := wp_of c58_12.eq_1
@[go_sem] theorem c58_13_wp : type_of% (wp_of c58_13.eq_1) := wp_of c58_13.eq_1
@[go_sem] theorem c58_14_wp : type_of% (wp_of c58_14.eq_1) := wp_of c58_14.eq_1
@[go_sem] theorem c58_15_wp : type_of% (wp_of c58_15.eq_1) := wp_of c58_15.eq_1
@[go_sem] theorem c58_16_wp : type_of% (wp_of c58_16.eq_1) := wp_of c58_16.eq_1
@[go_sem] theorem c58_17_wp : type_of% (wp_of c58_17.eq_1) := wp_of c58_17.eq_1
@[go_sem] theorem c58_18_wp : type_of% (wp_of c58_18.eq_1) := wp_of c58_18.eq_1
@[go_sem] theorem c58_19_wp : type_of% (wp_of c58_19.eq_1) := wp_of c58_19.eq_1
@[go_sem] theorem c58_20_wp : type_of% (wp_of c58_20.eq_1) := wp_of c58_20.eq_1
@[go_sem] theorem c58_21_wp : type_of% (wp_of c58_21.eq_1) := wp_of c58_21.eq_1
@[go_sem] theorem c58_22_wp : type_of% (wp_of c58_22.eq_1) := wp_of c58_22.eq_1
@[go_sem] theorem c58_23_wp : type_of% (wp_of c58_23.eq_1) := wp_of c58_23.eq_1
def c58 : AFn := ⟨29, [.t 2], c58_23⟩
set_option maxRecDepth 100000 in
theorem c58_ok : compF Tryd.prog Tryd.f58 = some c58 := by kernel_rfl
theorem a58 {args : List AV} {σ : ASt} {R : AV → ASt → Prop} (hl : args.length ≤ 29) (h : c58_23.wp Tryd.prog (RetQ [.t 2] R) (init args) σ) : ACalls Tryd.prog 58 args σ R := acalls_of Tryd.func58 c58_ok hl h

/-! 83: tabular/value.IsBlank -/
def c83_0 : ACode := .ops [
    ⟨(some 2), none, .q (.mv (.v (.bool false))), []⟩]
def c83_1 : ACode := .ops [
    ⟨(some 6), none, .q (.mv (.t 0)), []⟩,
    ⟨(some 7), none, .q (.ta 100 (.agg []) true (.t 6)), []⟩,
    ⟨(some 5), none, .q (.mv (.t 7)), []⟩,
    ⟨(some 8), none, .q (.ext 0 (.t 5)), []⟩,
    ⟨(some 9), none, .q (.ext 1 (.t 5)), []⟩,
    ⟨(some 3), none, .e (.alloc []), []⟩,
    ⟨none, none, .e (.store 0 (.t 3) (.t 8)), []⟩,
    ⟨(some 4), none, .q (.mv (.t 9)), []⟩]
def c83_2 : ACode := .ops [
    ⟨(some 10), none, .q (.mv (.t 4)), []⟩,
    ⟨(some 2), none, .q (.mv (.t 10)), []⟩]
def c83_3 : ACode := .seq c83_2 .ret
def c83_4 : ACode := .seq c83_1 c83_3
def c83_5 : ACode := .seq c83_0 c83_4
@[go_sem] theorem c83_0_wp : type_of% (wp_of c83_0.eq_1) := wp_of c83_0.eq_1
@[go_sem] theorem c83_1_wp : type_of% (wp_of c83_1.eq_1) := wp_of c83_1.eq_1
@[go_sem] theorem c83_2_wp : type_of% (wp_of c83_2.eq_1) := wp_of c83_2.eq_1
@[go_sem] theorem c83_3_wp : type_of% (wp_of c83_3.eq_1) := wp_of c83_3.eq_1
@[go_sem] theorem c83_4_wp : type_of% (wp_of c83_4.eq_1) := wp_of c83_4.eq_1
@[go_sem] theorem c83_5_wp : type_of% (wp_of c83_5.eq_1) := wp_of c83_5.eq_1
def c83 : AFn := ⟨11, [.t 2], c83_5⟩
set_option maxRecDepth 100000 in
theorem c83_ok : compF Tryd.prog Tryd.f83 = some c83 := by kernel_rfl
theorem a83 {args : List AV} {σ : ASt} {R : AV → ASt → Prop} (hl : args.length ≤ 11) (h : c83_5.wp Tryd.prog (RetQ [.t 2] R) (init args) σ) : ACalls Tryd.prog 83 args σ R := acalls_of Tryd.func83 c83_ok hl h

end Go.A
