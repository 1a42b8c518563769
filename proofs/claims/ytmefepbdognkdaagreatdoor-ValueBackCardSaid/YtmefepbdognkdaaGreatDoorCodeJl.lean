/- The functions, compiled: by program (wip/gencode.py). -/
import Derived.Test.YtmefepbdognkdaaGreatDoorBk
import Derived.Test.YtmefepbdognkdaaGreatDoorProg
import Derived.KernelRfl
namespace Go.A
open Go.Proofs

/-! 21: tabular/value.Compare -/
def c21_0 : ACode := .ops [
    ⟨(some 4), none, .q (.mv (.v (.int .i64 0))), []⟩]
def c21_1 : ACode := .ops [
    ⟨(some 13), none, .q (.mv (.t 0)), []⟩,
    ⟨(some 14), none, .q (.mv (.t 1)), []⟩,
    ⟨(some 15), none, .e (.call 85 [(.t 13), (.t 14)]), []⟩,
    ⟨(some 16), none, .q (.mv (.t 1)), []⟩,
    ⟨(some 17), none, .q (.mv (.t 0)), []⟩,
    ⟨(some 18), none, .e (.call 85 [(.t 16), (.t 17)]), []⟩,
    ⟨(some 0), none, .q (.mv (.t 15)), []⟩,
    ⟨(some 1), none, .q (.mv (.t 18)), []⟩]
def c21_2 : ACode := .ops [
    ⟨(some 19), none, .q (.mv (.t 0)), []⟩,
    ⟨(some 20), none, .e (.call 86 [(.t 19)]), []⟩,
    ⟨(some 21), none, .q (.mv (.t 1)), []⟩,
    ⟨(some 22), none, .e (.call 86 [(.t 21)]), []⟩,
    ⟨(some 23), none, .q (.bin .sub (.t 20) (.t 22)), []⟩,
    ⟨(some 5), none, .q (.mv (.t 23)), []⟩]
def c21_3 : ACode := .ops [
    ⟨(some 24), none, .q (.mv (.t 5)), []⟩,
    ⟨(some 25), none, .q (.bin .neq (.t 24) (.v (.int .i64 0))), []⟩]
def c21_4 : ACode := .ops [
    ⟨(some 26), none, .q (.mv (.t 5)), []⟩,
    ⟨(some 27), none, .q (.mnx false (.t 26) (.v (.int .i64 1))), []⟩,
    ⟨(some 28), none, .q (.mnx true (.t 27) (.v (.int .i64 (-1)))), []⟩,
    ⟨(some 4), none, .q (.mv (.t 28)), []⟩]
def c21_5 : ACode := .seq c21_4 .ret
def c21_6 : ACode := .cond (.t 25) c21_5 .skip
def c21_7 : ACode := .seq c21_3 c21_6
def c21_8 : ACode := .seq c21_2 c21_7
def c21_9 : ACode := .ops [
    ⟨(some 29), none, .q (.mv (.t 0)), []⟩]
def c21_10 : ACode := .ops [
    ⟨(some 30), none, .q (.ta 124 (.str []) true (.t 29)), []⟩,
    ⟨(some 31), none, .q (.ext 1 (.t 30)), []⟩,
    ⟨(some 32), none, .q (.ext 0 (.t 30)), []⟩]
def c21_11 : ACode := .ops [
    ⟨(some 6), none, .q (.mv (.t 32)), []⟩]
def c21_12 : ACode := .ops [
    ⟨(some 33), none, .q (.mv (.t 6)), []⟩,
    ⟨(some 35), none, .q (.mv (.t 1)), []⟩,
    ⟨(some 36), none, .q (.ta 124 (.str []) false (.t 35)), []⟩,
    ⟨(some 34), none, .e (.call 88 [(.t 33)]), []⟩,
    ⟨(some 37), none, .e (.call 88 [(.t 36)]), []⟩,
    ⟨(some 38), none, .e (.call 87 [(.t 34), (.t 37)]), []⟩,
    ⟨(some 4), none, .q (.mv (.t 38)), []⟩]
def c21_13 : ACode := .seq c21_12 .ret
def c21_14 : ACode := .seq c21_11 c21_13
def c21_15 : ACode := .ops [
    ⟨(some 39), none, .q (.ta 127 (.bool false) true (.t 29)), []⟩,
    ⟨(some 40), none, .q (.ext 1 (.t 39)), []⟩,
    ⟨(some 41), none, .q (.ext 0 (.t 39)), []⟩]
def c21_16 : ACode := .ops [
    ⟨(some 7), none, .q (.mv (.t 41)), []⟩]
def c21_17 : ACode := .ops [
    ⟨(some 42), none, .q (.mv (.t 1)), []⟩,
    ⟨(some 43), none, .q (.ta 127 (.bool false) false (.t 42)), []⟩,
    ⟨(some 8), none, .q (.mv (.t 43)), []⟩]
def c21_18 : ACode := .ops [
    ⟨(some 45), none, .q (.mv (.t 7)), []⟩,
    ⟨(some 46), none, .q (.mv (.t 8)), []⟩,
    ⟨(some 47), none, .q (.eq .b false (.t 45) (.t 46)), []⟩,
    ⟨(some 44), none, .q (.mv (.t 47)), []⟩]
def c21_19 : ACode := .ops [
    ⟨(some 4), none, .q (.mv (.v (.int .i64 0))), []⟩]
def c21_20 : ACode := .seq c21_19 .ret
def c21_21 : ACode := .ops [
    ⟨(some 49), none, .q (.mv (.t 8)), []⟩,
    ⟨(some 48), none, .q (.mv (.t 49)), []⟩]
def c21_22 : ACode := .ops [
    ⟨(some 4), none, .q (.mv (.v (.int .i64 (-1)))), []⟩]
def c21_23 : ACode := .seq c21_22 .ret
def c21_24 : ACode := .cond (.t 48) c21_23 .skip
def c21_25 : ACode := .seq c21_21 c21_24
def c21_26 : ACode := .cond (.t 44) c21_20 c21_25
def c21_27 : ACode := .seq c21_18 c21_26
def c21_28 : ACode := .block 1 c21_27
def c21_29 : ACode := .ops [
    ⟨(some 4), none, .q (.mv (.v (.int .i64 1))), []⟩]
def c21_30 : ACode := .seq c21_29 .ret
def c21_31 : ACode := .seq c21_28 c21_30
def c21_32 : ACode := .seq c21_17 c21_31
def c21_33 : ACode := .seq c21_16 c21_32
def c21_34 : ACode := .cond (.t 40) c21_33 .skip
def c21_35 : ACode := .seq c21_15 c21_34
def c21_36 : ACode := .cond (.t 31) c21_14 c21_35
def c21_37 : ACode := .seq c21_10 c21_36
def c21_38 : ACode := .block 0 c21_37
def c21_39 : ACode := .seq c21_9 c21_38
def c21_40 : ACode := .ops [
    ⟨(some 51), none, .q (.mv (.t 0)), []⟩,
    ⟨(some 52), none, .e (.call 89 [(.t 51)]), []⟩,
    ⟨(some 50), none, .q (.mv (.t 52)), []⟩,
    ⟨(some 53), none, .q (.ext 0 (.t 50)), []⟩,
    ⟨(some 54), none, .q (.ext 1 (.t 50)), []⟩,
    ⟨(some 9), none, .q (.mv (.t 53)), []⟩,
    ⟨(some 10), none, .q (.mv (.t 54)), []⟩]
def c21_41 : ACode := .ops [
    ⟨(some 56), none, .q (.mv (.t 1)), []⟩,
    ⟨(some 57), none, .e (.call 89 [(.t 56)]), []⟩,
    ⟨(some 55), none, .q (.mv (.t 57)), []⟩,
    ⟨(some 58), none, .q (.ext 0 (.t 55)), []⟩,
    ⟨(some 59), none, .q (.ext 1 (.t 55)), []⟩,
    ⟨(some 11), none, .q (.mv (.t 58)), []⟩,
    ⟨(some 12), none, .q (.mv (.t 59)), []⟩]
def c21_42 : ACode := .ops [
    ⟨(some 61), none, .q (.mv (.t 9)), []⟩,
    ⟨(some 62), none, .q (.mv (.t 11)), []⟩,
    ⟨(some 63), none, .q (.bin .lss (.t 61) (.t 62)), []⟩,
    ⟨(some 60), none, .q (.mv (.t 63)), []⟩]
def c21_43 : ACode := .ops [
    ⟨(some 4), none, .q (.mv (.v (.int .i64 (-1)))), []⟩]
def c21_44 : ACode := .seq c21_43 .ret
def c21_45 : ACode := .ops [
    ⟨(some 65), none, .q (.mv (.t 9)), []⟩,
    ⟨(some 66), none, .q (.mv (.t 11)), []⟩,
    ⟨(some 67), none, .q (.bin .gtr (.t 65) (.t 66)), []⟩,
    ⟨(some 64), none, .q (.mv (.t 67)), []⟩]
def c21_46 : ACode := .ops [
    ⟨(some 4), none, .q (.mv (.v (.int .i64 1))), []⟩]
def c21_47 : ACode := .seq c21_46 .ret
def c21_48 : ACode := .cond (.t 64) c21_47 .skip
def c21_49 : ACode := .seq c21_45 c21_48
def c21_50 : ACode := .cond (.t 60) c21_44 c21_49
def c21_51 : ACode := .seq c21_42 c21_50
def c21_52 : ACode := .block 2 c21_51
def c21_53 : ACode := .ops [
    ⟨(some 4), none, .q (.mv (.v (.int .i64 0))), []⟩]
def c21_54 : ACode := .seq c21_53 .ret
def c21_55 : ACode := .seq c21_52 c21_54
def c21_56 : ACode := .seq c21_41 c21_55
def c21_57 : ACode := .seq c21_40 c21_56
def c21_58 : ACode := .seq c21_39 c21_57
def c21_59 : ACode := .seq c21_8 c21_58
def c21_60 : ACode := .seq c21_1 c21_59
def c21_61 : ACode := .seq c21_0 c21_60
@[go_sem] theorem c21_0_wp : type_of% (wp_of c21_0.eq_1) := wp_of c21_0.eq_1
@[go_sem] theorem c21_1_wp : type_of% (wp_of c21_1.eq_1) := wp_of c21_1.eq_1
@[go_sem] theorem c21_2_wp : type_of% (wp_of c21_2.eq_1) := wp_of c21_2.eq_1
@[go_sem] theorem c21_3_wp : type_of% (wp_of c21_3.eq_1) := wp_of c21_3.eq_1
@[go_sem] theorem c21_4_wp : type_of% (wp_of c21_4.eq_1) := wp_of c21_4.eq_1
@[go_sem] theorem c21_5_wp : type_of% (wp_of c21_5.eq_1) := wp_of c21_5.eq_1
@[go_sem] theorem c21_6_wp : type_of% (wp_of c21_6.eq_1) := wp_of c21_6.eq_1
@[go_sem] theorem c21_7_wp : type_of% (wp_of c21_7.eq_1) := wp_of c21_7.eq_1
@[go_sem] theorem c21_8_wp : type_of% (wp_of c21_8.eq_1) := wp_of c21_8.eq_1
@[go_sem] theorem c21_9_wp : type_of% (wp_of c21_9.eq_1) := wp_of c21_9.eq_1
@[go_sem] theorem c21_10_wp : type_of% (wp_of c21_10.eq_1) := wp_of c21_10.eq_1
@[go_sem] theorem c21_11_wp : type_of% (wp_of c21_11.eq_1) := wp_of c21_11.eq_1
@[go_sem] theorem c21_12_wp : type_of% (wp_of c21_12.eq_1) := wp_of c21_12.eq_1
@[go_sem] theorem c21_13_wp : type_of% (wp_of c21_13.eq_1) := wp_of c21_13.eq_1
@[go_sem] theorem c21_14_wp : type_of% (wp_of c21_14.eq_1) := wp_of c21_14.eq_1
@[go_sem] theorem c21_15_wp : type_of% (wp_of c21_15.eq_1) := wp_of c21_15.eq_1
@[go_sem] theorem c21_16_wp : type_of% (wp_of c21_16.eq_1) := wp_of c21_16.eq_1
@[go_sem] theorem c21_17_wp : type_of% (wp_of c21_17.eq_1) := wp_of c21_17.eq_1
@[go_sem] theorem c21_18_wp : type_of% (wp_of c21_18.eq_1) := wp_of c21_18.eq_1
@[go_sem] theorem c21_19_wp : type_of% (wp_of c21_19.eq_1) := wp_of c21_19.eq_1
@[go_sem] theorem c21_20_wp : type_of% (wp_of c21_20.eq_1) := wp_of c21_20.eq_1
@[go_sem] theorem c21_21_wp : type_of% (wp_of c21_21.eq_1) := wp_of c21_21.eq_1
@[go_sem] theorem c21_22_wp : type_of% (wp_of c21_22.eq_1) := wp_of c21_22.eq_1
@[go_sem] theorem c21_23_wp : type_of% (wp_of c21_23.eq_1) := wp_of c21_23.eq_1
@[go_sem] theorem c21_24_wp : type_of% (wp_of c21_24.eq_1) := wp_of c21_24.eq_1
@[go_sem] theorem c21_25_wp : type_of% (wp_of c21_25.eq_1) := wp_of c21_25.eq_1
@[go_sem] theorem c21_26_wp : type_of% (wp_of c21_26.eq_1) := wp_of c21_26.eq_1
@[go_sem] theorem c21_27_wp : type_of% (wp_of c21_27.eq_1) := wp_of c21_27.eq_1
@[go_sem] theorem c21_28_wp : type_of% (wp_of c21_28.eq_1) := wp_of c21_28.eq_1
@[go_sem] theorem c21_29_wp : type_of% (wp_of c21_29.eq_1) := wp_of c21_29.eq_1
@[go_sem] theorem c21_30_wp : type_of% (wp_of c21_30.eq_1) := wp_of c21_30.eq_1
@[go_sem] theorem c21_31_wp : type_of% (wp_of c21_31.eq_1) := wp_of c21_31.eq_1
@[go_sem] theorem c21_32_wp : type_of% (wp_of c21_32.eq_1) := wp_of c21_32.eq_1
@[go_sem] theorem c21_33_wp : type_of% (wp_of c21_33.eq_1) := wp_of c21_33.eq_1
@[go_sem] theorem c21_34_wp : type_of% (wp_of c21_34.eq_1) := wp_of c21_34.eq_1
@[go_sem] theorem c21_35_wp : type_of% (wp_of c21_35.eq_1) := wp_of c21_35.eq_1
@[go_sem] theorem c21_36_wp : type_of% (wp_of c21_36.eq_1) := wp_of c21_36.eq_1
@[go_sem] theorem c21_37_wp : type_of% (wp_of c21_37.eq_1) := wp_of c21_37.eq_1
@[go_sem] theorem c21_38_wp : type_of% (wp_of c21_38.eq_1) := wp_of c21_38.eq_1
@[go_sem] theorem c21_39_wp : type_of% (wp_of c21_39.eq_1) := wp_of c21_39.eq_1
@[go_sem] theorem c21_40_wp : type_of% (wp_of c21_40.eq_1) := wp_of c21_40.eq_1
@[go_sem] theorem c21_41_wp : type_of% (wp_of c21_41.eq_1) := wp_of c21_41.eq_1
@[go_sem] theorem c21_42_wp : type_of% (wp_of c21_42.eq_1) := wp_of c21_42.eq_1
@[go_sem] theorem c21_43_wp : type_of% (wp_of c21_43.eq_1) := wp_of c21_43.eq_1
@[go_sem] theorem c21_44_wp : type_of% (wp_of c21_44.eq_1) := wp_of c21_44.eq_1
@[go_sem] theorem c21_45_wp : type_of% (wp_of c21_45.eq_1) := wp_of c21_45.eq_1
@[go_sem] theorem c21_46_wp : type_of% (wp_of c21_46.eq_1) := wp_of c21_46.eq_1
@[go_sem] theorem c21_47_wp : type_of% (wp_of c21_47.eq_1) := wp_of c21_47.eq_1
@[go_sem] theorem c21_48_wp : type_of% (wp_of c21_48.eq_1) := wp_of c21_48.eq_1
@[go_sem] theorem c21_49_wp : type_of% (wp_of c21_49.eq_1) := wp_of c21_49.eq_1
@[go_sem] theorem c21_50_wp : type_of% (wp_of c21_50.eq_1) := wp_of c21_50.eq_1
@[go_sem] theorem c21_51_wp : type_of% (wp_of c21_51.eq_1) := wp_of c21_51.eq_1
@[go_sem] theorem c21_52_wp : type_of% (wp_of c21_52.eq_1) := wp_of c21_52.eq_1
@[go_sem] theorem c21_53_wp : type_of% (wp_of c21_53.eq_1) := wp_of c21_53.eq_1
@[go_sem] theorem c21_54_wp : type_of% (wp_of c21_54.eq_1) := wp_of c21_54.eq_1
@[go_sem] theorem c21_55_wp : type_of% (wp_of c21_55.eq_1) := wp_of c21_55.eq_1
@[go_sem] theorem c21_56_wp : type_of% (wp_of c21_56.eq_1) := wp_of c21_56.eq_1
@[go_sem] theorem c21_57_wp : type_of% (wp_of c21_57.eq_1) := wp_of c21_57.eq_1
@[go_sem] theorem c21_58_wp : type_of% (wp_of c21_58.eq_1) := wp_of c21_58.eq_1
@[go_sem] theorem c21_59_wp : type_of% (wp_of c21_59.eq_1) := wp_of c21_59.eq_1
@[go_sem] theorem c21_60_wp : type_of% (wp_of c21_60.eq_1) := wp_of c21_60.eq_1
@[go_sem] theorem c21_61_wp : type_of% (wp_of c21_61.eq_1) := wp_of c21_61.eq_1
def c21 : AFn := ⟨68, [.t 4], c21_61⟩
set_option maxRecDepth 100000 in
theorem c21_ok : compF Tryz.prog Tryz.f21 = some c21 := by kernel_rfl
theorem a21 {args : List AV} {σ : ASt} {R : AV → ASt → Prop} (hl : args.length ≤ 68) (h : c21_61.wp Tryz.prog (RetQ [.t 4] R) (init args) σ) : ACalls Tryz.prog 21 args σ R := acalls_of Tryz.func21 c21_ok hl h

/-! 85: tabular/value.as -/
def c85_0 : ACode := .ops [
    ⟨(some 4), none, .q (.mv (.v .nili)), []⟩]
def c85_1 : ACode := .ops [
    ⟨(some 5), none, .q (.mv (.t 0)), []⟩,
    ⟨(some 6), none, .e (.call 140 [(.t 5)]), []⟩,
    ⟨(some 7), none, .q (.un .not (.t 6)), []⟩]
def c85_2 : ACode := .ops [
    ⟨(some 8), none, .q (.mv (.t 0)), []⟩,
    ⟨(some 4), none, .q (.mv (.t 8)), []⟩]
def c85_3 : ACode := .seq c85_2 .ret
def c85_4 : ACode := .cond (.t 7) c85_3 .skip
def c85_5 : ACode := .seq c85_1 c85_4
def c85_6 : ACode := .ops [
    ⟨(some 9), none, .q (.mv (.t 1)), []⟩]
def c85_7 : ACode := .ops [
    ⟨(some 10), none, .q (.ta 124 (.str []) true (.t 9)), []⟩,
    ⟨(some 11), none, .q (.ext 1 (.t 10)), []⟩,
    ⟨(some 12), none, .q (.ext 0 (.t 10)), []⟩]
def c85_8 : ACode := .ops [
    ⟨(some 13), none, .q (.mki 124 (.v (.str []))), []⟩,
    ⟨(some 4), none, .q (.mv (.t 13)), []⟩]
def c85_9 : ACode := .seq c85_8 .ret
def c85_10 : ACode := .ops [
    ⟨(some 14), none, .q (.ta 127 (.bool false) true (.t 9)), []⟩,
    ⟨(some 15), none, .q (.ext 1 (.t 14)), []⟩,
    ⟨(some 16), none, .q (.ext 0 (.t 14)), []⟩]
def c85_11 : ACode := .ops [
    ⟨(some 17), none, .q (.mki 127 (.v (.bool false))), []⟩,
    ⟨(some 4), none, .q (.mv (.t 17)), []⟩]
def c85_12 : ACode := .seq c85_11 .ret
def c85_13 : ACode := .cond (.t 15) c85_12 .skip
def c85_14 : ACode := .seq c85_10 c85_13
def c85_15 : ACode := .cond (.t 11) c85_9 c85_14
def c85_16 : ACode := .seq c85_7 c85_15
def c85_17 : ACode := .block 0 c85_16
def c85_18 : ACode := .seq c85_6 c85_17
def c85_19 : ACode := .ops [
    ⟨(some 18), none, .q (.mki 80 (.v (.int .i64 0))), []⟩,
    ⟨(some 4), none, .q (.mv (.t 18)), []⟩]
def c85_20 : ACode := .seq c85_19 .ret
def c85_21 : ACode := .seq c85_18 c85_20
def c85_22 : ACode := .seq c85_5 c85_21
def c85_23 : ACode := .seq c85_0 c85_22
@[go_sem] theorem c85_0_wp : type_of% (wp_of c85_0.eq_1) := wp_of c85_0.eq_1
@[go_sem] theorem c85_1_wp : type_of% (wp_of c85_1.eq_1) := wp_of c85_1.eq_1
@[go_sem] theorem c85_2_wp : type_of% (wp_of c85_2.eq_1) := wp_of c85_2.eq_1
@[go_sem] theorem c85_3_wp : type_of% (wp_of c85_3.eq_1) := wp_of c85_3.eq_1
@[go_sem] theorem c85_4_wp : type_of% (wp_of c85_4.eq_1) := wp_of c85_4.eq_1
@[go_sem] theorem c85_5_wp : type_of% (wp_of c85_5.eq_1) := wp_of c85_5.eq_1
@[go_sem] theorem c85_6_wp : type_of% (wp_of c85_6.eq_1) := wp_of c85_6.eq_1
@[go_sem] theorem c85_7_wp : type_of% (wp_of c85_7.eq_1) := wp_of c85_7.eq_1
@[go_sem] theorem c85_8_wp : type_of% (wp_of c85_8.eq_1) := wp_of c85_8.eq_1
@[go_sem] theorem c85_9_wp : type_of% (wp_of c85_9.eq_1) := wp_of c85_9.eq_1
@[go_sem] theorem c85_10_wp : type_of% (wp_of c85_10.eq_1) := wp_of c85_10.eq_1
@[go_sem] theorem c85_11_wp : type_of% (wp_of c85_11.eq_1) := wp_of c85_11.eq_1
@[go_sem] theorem c85_12_wp : type_of% (wp_of c85_12.eq_1) := wp_of c85_12.eq_1
@[go_sem] theorem c85_13_wp : type_of% (wp_of c85_13.eq_1) := wp_of c85_13.eq_1
@[go_sem] theorem c85_14_wp : type_of% (wp_of c85_14.eq_1) := wp_of c85_14.eq_1
@[go_sem] theorem c85_15_wp : type_of% (wp_of c85_15.eq_1) := wp_of c85_15.eq_1
@[go_sem] theorem c85_16_wp : type_of% (wp_of c85_16.eq_1) := wp_of c85_16.eq_1
@[go_sem] theorem c85_17_wp : type_of% (wp_of c85_17.eq_1) := wp_of c85_17.eq_1
@[go_sem] theorem c85_18_wp : type_of% (wp_of c85_18.eq_1) := wp_of c85_18.eq_1
@[go_sem] theorem c85_19_wp : type_of% (wp_of c85_19.eq_1) := wp_of c85_19.eq_1
@[go_sem] theorem c85_20_wp : type_of% (wp_of c85_20.eq_1) := wp_of c85_20.eq_1
@[go_sem] theorem c85_21_wp : type_of% (wp_of c85_21.eq_1) := wp_of c85_21.eq_1
@[go_sem] theorem c85_22_wp : type_of% (wp_of c85_22.eq_1) := wp_of c85_22.eq_1
@[go_sem] theorem c85_23_wp : type_of% (wp_of c85_23.eq_1) := wp_of c85_23.eq_1
def c85 : AFn := ⟨19, [.t 4], c85_23⟩
set_option maxRecDepth 100000 in
theorem c85_ok : compF Tryz.prog Tryz.f85 = some c85 := by kernel_rfl
theorem a85 {args : List AV} {σ : ASt} {R : AV → ASt → Prop} (hl : args.length ≤ 19) (h : c85_23.wp Tryz.prog (RetQ [.t 4] R) (init args) σ) : ACalls Tryz.prog 85 args σ R := acalls_of Tryz.func85 c85_ok hl h

/-! 86: tabular/value.rank -/
def c86_0 : ACode := .ops [
    ⟨(some 2), none, .q (.mv (.v (.int .i64 0))), []⟩]
def c86_1 : ACode := .ops [
    ⟨(some 3), none, .q (.mv (.t 0)), []⟩]
def c86_2 : ACode := .ops [
    ⟨(some 4), none, .q (.ta 124 (.str []) true (.t 3)), []⟩,
    ⟨(some 5), none, .q (.ext 1 (.t 4)), []⟩,
    ⟨(some 6), none, .q (.ext 0 (.t 4)), []⟩]
def c86_3 : ACode := .ops [
    ⟨(some 2), none, .q (.mv (.v (.int .i64 1))), []⟩]
def c86_4 : ACode := .seq c86_3 .ret
def c86_5 : ACode := .ops [
    ⟨(some 7), none, .q (.ta 127 (.bool false) true (.t 3)), []⟩,
    ⟨(some 8), none, .q (.ext 1 (.t 7)), []⟩,
    ⟨(some 9), none, .q (.ext 0 (.t 7)), []⟩]
def c86_6 : ACode := .ops [
    ⟨(some 2), none, .q (.mv (.v (.int .i64 2))), []⟩]
def c86_7 : ACode := .seq c86_6 .ret
def c86_8 : ACode := .cond (.t 8) c86_7 .skip
def c86_9 : ACode := .seq c86_5 c86_8
def c86_10 : ACode := .cond (.t 5) c86_4 c86_9
def c86_11 : ACode := .seq c86_2 c86_10
def c86_12 : ACode := .block 0 c86_11
def c86_13 : ACode := .seq c86_1 c86_12
def c86_14 : ACode := .ops [
    ⟨(some 2), none, .q (.mv (.v (.int .i64 0))), []⟩]
def c86_15 : ACode := .seq c86_14 .ret
def c86_16 : ACode := .seq c86_13 c86_15
def c86_17 : ACode := .seq c86_0 c86_16
@[go_sem] theorem c86_0_wp : type_of% (wp_of c86_0.eq_1) := wp_of c86_0.eq_1
@[go_sem] theorem c86_1_wp : type_of% (wp_of c86_1.eq_1) := wp_of c86_1.eq_1
@[go_sem] theorem c86_2_wp : type_of% (wp_of c86_2.eq_1) := wp_of c86_2.eq_1
@[go_sem] theorem c86_3_wp : type_of% (wp_of c86_3.eq_1) := wp_of c86_3.eq_1
@[go_sem] theorem c86_4_wp : type_of% (wp_of c86_4.eq_1) := wp_of c86_4.eq_1
@[go_sem] theorem c86_5_wp : type_of% (wp_of c86_5.eq_1) := wp_of c86_5.eq_1
@[go_sem] theorem c86_6_wp : type_of% (wp_of c86_6.eq_1) := wp_of c86_6.eq_1
@[go_sem] theorem c86_7_wp : type_of% (wp_of c86_7.eq_1) := wp_of c86_7.eq_1
@[go_sem] theorem c86_8_wp : type_of% (wp_of c86_8.eq_1) := wp_of c86_8.eq_1
@[go_sem] theorem c86_9_wp : type_of% (wp_of c86_9.eq_1) := wp_of c86_9.eq_1
@[go_sem] theorem c86_10_wp : type_of% (wp_of c86_10.eq_1) := wp_of c86_10.eq_1
@[go_sem] theorem c86_11_wp : type_of% (wp_of c86_11.eq_1) := wp_of c86_11.eq_1
@[go_sem] theorem c86_12_wp : type_of% (wp_of c86_12.eq_1) := wp_of c86_12.eq_1
@[go_sem] theorem c86_13_wp : type_of% (wp_of c86_13.eq_1) := wp_of c86_13.eq_1
@[go_sem] theorem c86_14_wp : type_of% (wp_of c86_14.eq_1) := wp_of c86_14.eq_1
@[go_sem] theorem c86_15_wp : type_of% (wp_of c86_15.eq_1) := wp_of c86_15.eq_1
@[go_sem] theorem c86_16_wp : type_of% (wp_of c86_16.eq_1) := wp_of c86_16.eq_1
@[go_sem] theorem c86_17_wp : type_of% (wp_of c86_17.eq_1) := wp_of c86_17.eq_1
def c86 : AFn := ⟨10, [.t 2], c86_17⟩
set_option maxRecDepth 100000 in
theorem c86_ok : compF Tryz.prog Tryz.f86 = some c86 := by kernel_rfl
theorem a86 {args : List AV} {σ : ASt} {R : AV → ASt → Prop} (hl : args.length ≤ 10) (h : c86_17.wp Tryz.prog (RetQ [.t 2] R) (init args) σ) : ACalls Tryz.prog 86 args σ R := acalls_of Tryz.func86 c86_ok hl h

/-! 88: tabular/value.Great -/
def c88_0 : ACode := .ops [
    ⟨(some 2), none, .q (.mv (.v (.str []))), []⟩]
def c88_1 : ACode := .ops [
    ⟨(some 6), none, .q (.mv (.t 0)), []⟩,
    ⟨(some 7), none, .e (.s2b (.t 6)), []⟩,
    ⟨(some 3), none, .q (.mv (.t 7)), []⟩]
def c88_2 : ACode := .ops [
    ⟨(some 8), none, .q (.mv (.t 3)), []⟩,
    ⟨(some 9), none, .q (.len (.t 8)), []⟩,
    ⟨(some 10), none, .q (.mv (.v (.int .i64 0))), []⟩]
def c88_3 : ACode := .ops [
    ⟨(some 11), none, .q (.bin .lss (.t 10) (.t 9)), []⟩]
def c88_4 : ACode := .cond (.t 11) .skip (.exit 0)
def c88_5 : ACode := .ops [
    ⟨(some 12), none, .q (.mv (.t 10)), []⟩,
    ⟨(some 13), none, .q (.ia 1 (.t 8) (.t 10)), []⟩,
    ⟨(some 14), none, .q (.ld none (.t 13)), []⟩,
    ⟨(some 4), none, .q (.mv (.t 12)), []⟩,
    ⟨(some 5), none, .q (.mv (.t 14)), []⟩]
def c88_6 : ACode := .ops [
    ⟨(some 15), none, .q (.mv (.t 5)), []⟩,
    ⟨(some 16), none, .q (.bin .geq (.t 15) (.v (.int .u8 97))), []⟩,
    ⟨(some 17), none, .q (.mv (.t 16)), []⟩,
    ⟨(some 18), (some (17, true)), .q (.mv (.t 5)), []⟩,
    ⟨(some 19), (some (17, true)), .q (.bin .leq (.t 18) (.v (.int .u8 122))), []⟩,
    ⟨(some 20), none, .q (.pick (.t 17) (.t 19) (.v (.bool false))), []⟩]
def c88_7 : ACode := .ops [
    ⟨(some 21), none, .q (.mv (.t 3)), []⟩,
    ⟨(some 22), none, .q (.mv (.t 4)), []⟩,
    ⟨(some 23), none, .q (.mv (.t 5)), []⟩,
    ⟨(some 24), none, .q (.bin .sub (.t 23) (.v (.int .u8 32))), []⟩,
    ⟨(some 25), none, .q (.ia 1 (.t 21) (.t 22)), []⟩,
    ⟨none, none, .e (.store 1 (.t 25) (.t 24)), []⟩]
def c88_8 : ACode := .cond (.t 20) c88_7 .skip
def c88_9 : ACode := .seq c88_6 c88_8
def c88_10 : ACode := .seq c88_5 c88_9
def c88_11 : ACode := .block 1 c88_10
def c88_12 : ACode := .ops [
    ⟨(some 26), none, .q (.bin .add (.t 10) (.v (.int .i64 1))), []⟩,
    ⟨(some 10), none, .q (.mv (.t 26)), []⟩]
def c88_13 : ACode := .seq c88_11 c88_12
def c88_14 : ACode := .seq c88_4 c88_13
def c88_15 : ACode := .seq c88_3 c88_14
def c88_16 : ACode := .loop c88_15
def c88_17 : ACode := .block 0 c88_16
def c88_18 : ACode := .seq c88_2 c88_17
def c88_19 : ACode := .ops [
    ⟨(some 27), none, .q (.mv (.t 3)), []⟩,
    ⟨(some 28), none, .q (.b2s (.t 27)), []⟩,
    ⟨(some 2), none, .q (.mv (.t 28)), []⟩]
def c88_20 : ACode := .seq c88_19 .ret
def c88_21 : ACode := .seq c88_18 c88_20
def c88_22 : ACode := .seq c88_1 c88_21
def c88_23 : ACode := .seq c88_0 c88_22
@[go_sem] theorem c88_0_wp : type_of% (wp_of c88_0.eq_1) := wp_of c88_0.eq_1
@[go_sem] theorem c88_1_wp : type_of% (wp_of c88_1.eq_1) := wp_of c88_1.eq_1
@[go_sem] theorem c88_2_wp : type_of% (wp_of c88_2.eq_1) := wp_of c88_2.eq_1
@[go_sem] theorem c88_3_wp : type_of% (wp_of c88_3.eq_1) := wp_of c88_3.eq_1
@[go_sem] theorem c88_4_wp : type_of% (wp_of c88_4.eq_1) := wp_of c88_4.eq_1
@[go_sem] theorem c88_5_wp : type_of% (wp_of c88_5.eq_1) := wp_of c88_5.eq_1
@[go_sem] theorem c88_6_wp : type_of% (wp_of c88_6.eq_1) := wp_of c88_6.eq_1
@[go_sem] theorem c88_7_wp : type_of% (wp_of c88_7.eq_1) := wp_of c88_7.eq_1
@[go_sem] theorem c88_8_wp : type_of% (wp_of c88_8.eq_1) := wp_of c88_8.eq_1
@[go_sem] theorem c88_9_wp : type_of% (wp_of c88_9.eq_1) := wp_of c88_9.eq_1
@[go_sem] theorem c88_10_wp : type_of% (wp_of c88_10.eq_1) := wp_of c88_10.eq_1
@[go_sem] theorem c88_11_wp : type_of% (wp_of c88_11.eq_1) := wp_of c88_11.eq_1
@[go_sem] theorem c88_12_wp : type_of% (wp_of c88_12.eq_1) := wp_of c88_12.eq_1
@[go_sem] theorem c88_13_wp : type_of% (wp_of c88_13.eq_1) := wp_of c88_13.eq_1
@[go_sem] theorem c88_14_wp : type_of% (wp_of c88_14.eq_1) := wp_of c88_14.eq_1
@[go_sem] theorem c88_15_wp : type_of% (wp_of c88_15.eq_1) := wp_of c88_15.eq_1
@[go_sem] theorem c88_16_wp : type_of% (wp_of c88_16.eq_1) := wp_of c88_16.eq_1
@[go_sem] theorem c88_17_wp : type_of% (wp_of c88_17.eq_1) := wp_of c88_17.eq_1
@[go_sem] theorem c88_18_wp : type_of% (wp_of c88_18.eq_1) := wp_of c88_18.eq_1
@[go_sem] theorem c88_19_wp : type_of% (wp_of c88_19.eq_1) := wp_of c88_19.eq_1
@[go_sem] theorem c88_20_wp : type_of% (wp_of c88_20.eq_1) := wp_of c88_20.eq_1
@[go_sem] theorem c88_21_wp : type_of% (wp_of c88_21.eq_1) := wp_of c88_21.eq_1
@[go_sem] theorem c88_22_wp : type_of% (wp_of c88_22.eq_1) := wp_of c88_22.eq_1
@[go_sem] theorem c88_23_wp : type_of% (wp_of c88_23.eq_1) := wp_of c88_23.eq_1
def c88 : AFn := ⟨29, [.t 2], c88_23⟩
set_option maxRecDepth 100000 in
theorem c88_ok : compF Tryz.prog Tryz.f88 = some c88 := by kernel_rfl
theorem a88 {args : List AV} {σ : ASt} {R : AV → ASt → Prop} (hl : args.length ≤ 29) (h : c88_23.wp Tryz.prog (RetQ [.t 2] R) (init args) σ) : ACalls Tryz.prog 88 args σ R := acalls_of Tryz.func88 c88_ok hl h

/-! 140: tabular/value.IsBlank -/
def c140_0 : ACode := .ops [
    ⟨(some 2), none, .q (.mv (.v (.bool false))), []⟩]
def c140_1 : ACode := .ops [
    ⟨(some 6), none, .q (.mv (.t 0)), []⟩,
    ⟨(some 7), none, .q (.ta 143 (.agg []) true (.t 6)), []⟩,
    ⟨(some 5), none, .q (.mv (.t 7)), []⟩,
    ⟨(some 8), none, .q (.ext 0 (.t 5)), []⟩,
    ⟨(some 9), none, .q (.ext 1 (.t 5)), []⟩,
    ⟨(some 3), none, .e (.alloc []), []⟩,
    ⟨none, none, .e (.store 0 (.t 3) (.t 8)), []⟩,
    ⟨(some 4), none, .q (.mv (.t 9)), []⟩]
def c140_2 : ACode := .ops [
    ⟨(some 10), none, .q (.mv (.t 4)), []⟩,
    ⟨(some 2), none, .q (.mv (.t 10)), []⟩]
def c140_3 : ACode := .seq c140_2 .ret
def c140_4 : ACode := .seq c140_1 c140_3
def c140_5 : ACode := .seq c140_0 c140_4
@[go_sem] theorem c140_0_wp : type_of% (wp_of c140_0.eq_1) := wp_of c140_0.eq_1
@[go_sem] theorem c140_1_wp : type_of% (wp_of c140_1.eq_1) := wp_of c140_1.eq_1
@[go_sem] theorem c140_2_wp : type_of% (wp_of c140_2.eq_1) := wp_of c140_2.eq_1
@[go_sem] theorem c140_3_wp : type_of% (wp_of c140_3.eq_1) := wp_of c140_3.eq_1
@[go_sem] theorem c140_4_wp : type_of% (wp_of c140_4.eq_1) := wp_of c140_4.eq_1
@[go_sem] theorem c140_5_wp : type_of% (wp_of c140_5.eq_1) := wp_of c140_5.eq_1
def c140 : AFn := ⟨11, [.t 2], c140_5⟩
set_option maxRecDepth 100000 in
theorem c140_ok : compF Tryz.prog Tryz.f140 = some c140 := by kernel_rfl
theorem a140 {args : List AV} {σ : ASt} {R : AV → ASt → Prop} (hl : args.length ≤ 11) (h : c140_5.wp Tryz.prog (RetQ [.t 2] R) (init args) σ) : ACalls Tryz.prog 140 args σ R := acalls_of Tryz.func140 c140_ok hl h

end Go.A
