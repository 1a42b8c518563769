/- The functions, compiled: by program (wip/gencode.py). -/
import Derived.Test.YtmefepbdognkdaaGreatDoorBk
import Derived.Test.YtmefepbdognkdaaGreatDoorProg
import Derived.KernelRfl
namespace Go.A
open Go.Proofs

/-! 18: tabular/tabularlaw15.awake -/
def c18_0 : ACode := .ops [
    ⟨(some 0), none, .q (.mv (.v (.bool false))), []⟩]
def c18_1 : ACode := .ops [
    ⟨(some 4), none, .e (.call 34 [(.v (.str [50]))]), []⟩,
    ⟨(some 5), none, .q (.build [(.int .i64 0), (.int .i64 0), (.str [])] [(0, 1, (.v (.int .i64 3))), (1, 1, (.v (.int .i64 1)))]), []⟩,
    ⟨(some 6), none, .e (.call 60 [(.t 5)]), []⟩,
    ⟨(some 7), none, .e (.call 25 [(.v (.int .i64 0)), (.t 4), (.t 6)]), []⟩,
    ⟨(some 1), none, .q (.mv (.t 7)), []⟩]
def c18_2 : ACode := .ops [
    ⟨(some 8), none, .q (.build [(.int .i64 0), (.int .i64 0), (.str [])] [(0, 1, (.v (.int .i64 2))), (2, 1, (.v (.str [98])))]), []⟩,
    ⟨(some 9), none, .e (.call 60 [(.t 8)]), []⟩,
    ⟨(some 2), none, .q (.mv (.t 9)), []⟩]
def c18_3 : ACode := .ops [
    ⟨(some 10), none, .q (.build [(.int .i64 0), (.int .i64 0), (.str [])] [(0, 1, (.v (.int .i64 2))), (2, 1, (.v (.str [65])))]), []⟩,
    ⟨(some 11), none, .e (.call 60 [(.t 10)]), []⟩,
    ⟨(some 3), none, .q (.mv (.t 11)), []⟩]
def c18_4 : ACode := .ops [
    ⟨(some 12), none, .q (.mv (.t 1)), []⟩,
    ⟨(some 13), none, .e (.call 37 [(.t 12)]), []⟩,
    ⟨(some 14), none, .q (.build [(.int .i64 0), (.int .i64 0), (.str [])] [(0, 1, (.v (.int .i64 1))), (1, 1, (.v (.int .i64 30000)))]), []⟩,
    ⟨(some 15), none, .q (.eqs false [(0, 0), (1, 0), (2, 2)] (.t 13) (.t 14)), []⟩,
    ⟨(some 16), none, .q (.mv (.t 15)), []⟩,
    ⟨(some 17), (some (16, true)), .q (.mv (.t 2)), []⟩,
    ⟨(some 18), (some (16, true)), .q (.mv (.t 3)), []⟩,
    ⟨(some 19), (some (16, true)), .e (.call 21 [(.t 17), (.t 18)]), []⟩,
    ⟨(some 20), (some (16, true)), .q (.bin .eql (.t 19) (.v (.int .i64 1))), []⟩,
    ⟨(some 21), none, .q (.pick (.t 16) (.t 20) (.v (.bool false))), []⟩,
    ⟨(some 22), none, .q (.mv (.t 21)), []⟩,
    ⟨(some 23), (some (22, true)), .q (.build [(.int .i64 0), (.int .i64 0), (.str [])] [(0, 1, (.v (.int .i64 2))), (2, 1, (.v (.str [49])))]), []⟩,
    ⟨(some 24), (some (22, true)), .e (.call 60 [(.t 23)]), []⟩,
    ⟨(some 25), (some (22, true)), .e (.call 35 [(.t 24)]), []⟩,
    ⟨(some 26), (some (22, true)), .q (.bin .eql (.t 25) (.v (.str [39, 49]))), []⟩,
    ⟨(some 27), none, .q (.pick (.t 22) (.t 26) (.v (.bool false))), []⟩,
    ⟨(some 28), none, .q (.mv (.t 27)), []⟩,
    ⟨(some 29), (some (28, true)), .q (.mki 51 (.v (.int .i64 1))), []⟩,
    ⟨(some 30), (some (28, true)), .e (.call 81 [(.t 29)]), []⟩,
    ⟨(some 31), (some (28, true)), .q (.bin .eql (.t 30) (.v (.str [35, 68, 73, 86, 47, 48, 33]))), []⟩,
    ⟨(some 32), none, .q (.pick (.t 28) (.t 31) (.v (.bool false))), []⟩,
    ⟨(some 0), none, .q (.mv (.t 32)), []⟩]
def c18_5 : ACode := .seq c18_4 .ret
def c18_6 : ACode := .seq c18_3 c18_5
def c18_7 : ACode := .seq c18_2 c18_6
def c18_8 : ACode := .seq c18_1 c18_7
def c18_9 : ACode := .seq c18_0 c18_8
@[go_sem] theorem c18_0_wp : type_of% (wp_of c18_0.eq_1) := wp_of c18_0.eq_1
@[go_sem] theorem c18_1_wp : type_of% (wp_of c18_1.eq_1) := wp_of c18_1.eq_1
@[go_sem] theorem c18_2_wp : type_of% (wp_of c18_2.eq_1) := wp_of c18_2.eq_1
@[go_sem] theorem c18_3_wp : type_of% (wp_of c18_3.eq_1) := wp_of c18_3.eq_1
@[go_sem] theorem c18_4_wp : type_of% (wp_of c18_4.eq_1) := wp_of c18_4.eq_1
@[go_sem] theorem c18_5_wp : type_of% (wp_of c18_5.eq_1) := wp_of c18_5.eq_1
@[go_sem] theorem c18_6_wp : type_of% (wp_of c18_6.eq_1) := wp_of c18_6.eq_1
@[go_sem] theorem c18_7_wp : type_of% (wp_of c18_7.eq_1) := wp_of c18_7.eq_1
@[go_sem] theorem c18_8_wp : type_of% (wp_of c18_8.eq_1) := wp_of c18_8.eq_1
@[go_sem] theorem c18_9_wp : type_of% (wp_of c18_9.eq_1) := wp_of c18_9.eq_1
def c18 : AFn := ⟨33, [.t 0], c18_9⟩
set_option maxRecDepth 100000 in
theorem c18_ok : compF Tryz.prog Tryz.f18 = some c18 := by kernel_rfl
theorem a18 {args : List AV} {σ : ASt} {R : AV → ASt → Prop} (hl : args.length ≤ 33) (h : c18_9.wp Tryz.prog (RetQ [.t 0] R) (init args) σ) : ACalls Tryz.prog 18 args σ R := acalls_of Tryz.func18 c18_ok hl h

/-! 25: tabular/value.Arith -/
def c25_0 : ACode := .ops [
    ⟨(some 6), none, .q (.mv (.v .nili)), []⟩]
def c25_1 : ACode := .ops [
    ⟨(some 11), none, .q (.mv (.t 1)), []⟩,
    ⟨(some 12), none, .e (.call 27 [(.t 11)]), []⟩,
    ⟨(some 10), none, .q (.mv (.t 12)), []⟩,
    ⟨(some 13), none, .q (.ext 0 (.t 10)), []⟩,
    ⟨(some 14), none, .q (.ext 1 (.t 10)), []⟩,
    ⟨(some 7), none, .q (.mv (.t 13)), []⟩,
    ⟨(some 8), none, .q (.mv (.t 14)), []⟩]
def c25_2 : ACode := .ops [
    ⟨(some 15), none, .q (.mv (.t 8)), []⟩,
    ⟨(some 16), none, .q (.bin .neq (.t 15) (.v (.int .i64 0))), []⟩]
def c25_3 : ACode := .ops [
    ⟨(some 17), none, .q (.mv (.t 8)), []⟩,
    ⟨(some 18), none, .q (.mki 51 (.t 17)), []⟩,
    ⟨(some 6), none, .q (.mv (.t 18)), []⟩]
def c25_4 : ACode := .seq c25_3 .ret
def c25_5 : ACode := .cond (.t 16) c25_4 .skip
def c25_6 : ACode := .seq c25_2 c25_5
def c25_7 : ACode := .ops [
    ⟨(some 20), none, .q (.mv (.t 2)), []⟩,
    ⟨(some 21), none, .e (.call 27 [(.t 20)]), []⟩,
    ⟨(some 19), none, .q (.mv (.t 21)), []⟩,
    ⟨(some 22), none, .q (.ext 0 (.t 19)), []⟩,
    ⟨(some 23), none, .q (.ext 1 (.t 19)), []⟩,
    ⟨(some 9), none, .q (.mv (.t 22)), []⟩,
    ⟨(some 8), none, .q (.mv (.t 23)), []⟩]
def c25_8 : ACode := .ops [
    ⟨(some 24), none, .q (.mv (.t 8)), []⟩,
    ⟨(some 25), none, .q (.bin .neq (.t 24) (.v (.int .i64 0))), []⟩]
def c25_9 : ACode := .ops [
    ⟨(some 26), none, .q (.mv (.t 8)), []⟩,
    ⟨(some 27), none, .q (.mki 51 (.t 26)), []⟩,
    ⟨(some 6), none, .q (.mv (.t 27)), []⟩]
def c25_10 : ACode := .seq c25_9 .ret
def c25_11 : ACode := .cond (.t 25) c25_10 .skip
def c25_12 : ACode := .seq c25_8 c25_11
def c25_13 : ACode := .ops [
    ⟨(some 28), none, .q (.mv (.t 0)), []⟩]
def c25_14 : ACode := .ops [
    ⟨(some 30), none, .q (.bin .eql (.t 28) (.v (.int .i64 0))), []⟩,
    ⟨(some 29), none, .q (.mv (.t 30)), []⟩]
def c25_15 : ACode := .ops [
    ⟨(some 31), none, .q (.mv (.t 7)), []⟩,
    ⟨(some 32), none, .q (.mv (.t 9)), []⟩,
    ⟨(some 33), none, .e (.call 93 [(.t 31), (.t 32)]), []⟩,
    ⟨(some 34), none, .q (.ext 0 (.t 33)), []⟩,
    ⟨(some 35), none, .q (.ext 1 (.t 33)), []⟩,
    ⟨(some 36), none, .e (.call 43 [(.t 34), (.t 35)]), []⟩,
    ⟨(some 6), none, .q (.mv (.t 36)), []⟩]
def c25_16 : ACode := .seq c25_15 .ret
def c25_17 : ACode := .ops [
    ⟨(some 38), none, .q (.bin .eql (.t 28) (.v (.int .i64 1))), []⟩,
    ⟨(some 37), none, .q (.mv (.t 38)), []⟩]
def c25_18 : ACode := .ops [
    ⟨(some 39), none, .q (.mv (.t 7)), []⟩,
    ⟨(some 40), none, .q (.mv (.t 9)), []⟩,
    ⟨(some 41), none, .e (.call 94 [(.t 39), (.t 40)]), []⟩,
    ⟨(some 42), none, .q (.ext 0 (.t 41)), []⟩,
    ⟨(some 43), none, .q (.ext 1 (.t 41)), []⟩,
    ⟨(some 44), none, .e (.call 43 [(.t 42), (.t 43)]), []⟩,
    ⟨(some 6), none, .q (.mv (.t 44)), []⟩]
def c25_19 : ACode := .seq c25_18 .ret
def c25_20 : ACode := .ops [
    ⟨(some 46), none, .q (.bin .eql (.t 28) (.v (.int .i64 2))), []⟩,
    ⟨(some 45), none, .q (.mv (.t 46)), []⟩]
def c25_21 : ACode := .ops [
    ⟨(some 47), none, .q (.mv (.t 7)), []⟩,
    ⟨(some 48), none, .q (.mv (.t 9)), []⟩,
    ⟨(some 49), none, .e (.call 95 [(.t 47), (.t 48)]), []⟩,
    ⟨(some 50), none, .q (.ext 0 (.t 49)), []⟩,
    ⟨(some 51), none, .q (.ext 1 (.t 49)), []⟩,
    ⟨(some 52), none, .e (.call 43 [(.t 50), (.t 51)]), []⟩,
    ⟨(some 6), none, .q (.mv (.t 52)), []⟩]
def c25_22 : ACode := .seq c25_21 .ret
def c25_23 : ACode := .ops [
    ⟨(some 54), none, .q (.bin .eql (.t 28) (.v (.int .i64 3))), []⟩,
    ⟨(some 53), none, .q (.mv (.t 54)), []⟩]
def c25_24 : ACode := .ops [
    ⟨(some 55), none, .q (.mv (.t 9)), []⟩,
    ⟨(some 56), none, .q (.bin .eql (.t 55) (.v (.int .i64 0))), []⟩]
def c25_25 : ACode := .ops [
    ⟨(some 57), none, .q (.mki 51 (.v (.int .i64 1))), []⟩,
    ⟨(some 6), none, .q (.mv (.t 57)), []⟩]
def c25_26 : ACode := .seq c25_25 .ret
def c25_27 : ACode := .cond (.t 56) c25_26 .skip
def c25_28 : ACode := .seq c25_24 c25_27
def c25_29 : ACode := .ops [
    ⟨(some 58), none, .q (.mv (.t 7)), []⟩,
    ⟨(some 59), none, .q (.mv (.t 9)), []⟩,
    ⟨(some 60), none, .e (.call 96 [(.t 58), (.t 59)]), []⟩,
    ⟨(some 61), none, .q (.ext 0 (.t 60)), []⟩,
    ⟨(some 62), none, .q (.ext 1 (.t 60)), []⟩,
    ⟨(some 63), none, .e (.call 43 [(.t 61), (.t 62)]), []⟩,
    ⟨(some 6), none, .q (.mv (.t 63)), []⟩]
def c25_30 : ACode := .seq c25_29 .ret
def c25_31 : ACode := .seq c25_28 c25_30
def c25_32 : ACode := .cond (.t 53) c25_31 .skip
def c25_33 : ACode := .seq c25_23 c25_32
def c25_34 : ACode := .cond (.t 45) c25_22 c25_33
def c25_35 : ACode := .seq c25_20 c25_34
def c25_36 : ACode := .cond (.t 37) c25_19 c25_35
def c25_37 : ACode := .seq c25_17 c25_36
def c25_38 : ACode := .cond (.t 29) c25_16 c25_37
def c25_39 : ACode := .seq c25_14 c25_38
def c25_40 : ACode := .block 0 c25_39
def c25_41 : ACode := .seq c25_13 c25_40
def c25_42 : ACode := .ops [
    ⟨(some 64), none, .q (.mv (.t 7)), []⟩,
    ⟨(some 65), none, .q (.mv (.t 9)), []⟩,
    ⟨(some 66), none, .e (.call 54 [(.t 64), (.t 65)]), []⟩,
    ⟨(some 6), none, .q (.mv (.t 66)), []⟩]
def c25_43 : ACode := .seq c25_42 .ret
def c25_44 : ACode := .seq c25_41 c25_43
def c25_45 : ACode := .seq c25_12 c25_44
def c25_46 : ACode := .seq c25_7 c25_45
def c25_47 : ACode := .seq c25_6 c25_46
def c25_48 : ACode := .seq c25_1 c25_47
def c25_49 : ACode := .seq c25_0 c25_48
@[go_sem] theorem c25_0_wp : type_of% (wp_of c25_0.eq_1) := wp_of c25_0.eq_1
@[go_sem] theorem c25_1_wp : type_of% (wp_of c25_1.eq_1) := wp_of c25_1.eq_1
@[go_sem] theorem c25_2_wp : type_of% (wp_of c25_2.eq_1) := wp_of c25_2.eq_1
@[go_sem] theorem c25_3_wp : type_of% (wp_of c25_3.eq_1) := wp_of c25_3.eq_1
@[go_sem] theorem c25_4_wp : type_of% (wp_of c25_4.eq_1) := wp_of c25_4.eq_1
@[go_sem] theorem c25_5_wp : type_of% (wp_of c25_5.eq_1) := wp_of c25_5.eq_1
@[go_sem] theorem c25_6_wp : type_of% (wp_of c25_6.eq_1) := wp_of c25_6.eq_1
@[go_sem] theorem c25_7_wp : type_of% (wp_of c25_7.eq_1) := wp_of c25_7.eq_1
@[go_sem] theorem c25_8_wp : type_of% (wp_of c25_8.eq_1) := wp_of c25_8.eq_1
@[go_sem] theorem c25_9_wp : type_of% (wp_of c25_9.eq_1) := wp_of c25_9.eq_1
@[go_sem] theorem c25_10_wp : type_of% (wp_of c25_10.eq_1) := wp_of c25_10.eq_1
@[go_sem] theorem c25_11_wp : type_of% (wp_of c25_11.eq_1) := wp_of c25_11.eq_1
@[go_sem] theorem c25_12_wp : type_of% (wp_of c25_12.eq_1) := wp_of c25_12.eq_1
@[go_sem] theorem c25_13_wp : type_of% (wp_of c25_13.eq_1) := wp_of c25_13.eq_1
@[go_sem] theorem c25_14_wp : type_of% (wp_of c25_14.eq_1) := wp_of c25_14.eq_1
@[go_sem] theorem c25_15_wp : type_of% (wp_of c25_15.eq_1) := wp_of c25_15.eq_1
@[go_sem] theorem c25_16_wp : type_of% (wp_of c25_16.eq_1) := wp_of c25_16.eq_1
@[go_sem] theorem c25_17_wp : type_of% (wp_of c25_17.eq_1) := wp_of c25_17.eq_1
@[go_sem] theorem c25_18_wp : type_of% (wp_of c25_18.eq_1) := wp_of c25_18.eq_1
@[go_sem] theorem c25_19_wp : type_of% (wp_of c25_19.eq_1) := wp_of c25_19.eq_1
@[go_sem] theorem c25_20_wp : type_of% (wp_of c25_20.eq_1) := wp_of c25_20.eq_1
@[go_sem] theorem c25_21_wp : type_of% (wp_of c25_21.eq_1) := wp_of c25_21.eq_1
@[go_sem] theorem c25_22_wp : type_of% (wp_of c25_22.eq_1) := wp_of c25_22.eq_1
@[go_sem] theorem c25_23_wp : type_of% (wp_of c25_23.eq_1) := wp_of c25_23.eq_1
@[go_sem] theorem c25_24_wp : type_of% (wp_of c25_24.eq_1) := wp_of c25_24.eq_1
@[go_sem] theorem c25_25_wp : type_of% (wp_of c25_25.eq_1) := wp_of c25_25.eq_1
@[go_sem] theorem c25_26_wp : type_of% (wp_of c25_26.eq_1) := wp_of c25_26.eq_1
@[go_sem] theorem c25_27_wp : type_of% (wp_of c25_27.eq_1) := wp_of c25_27.eq_1
@[go_sem] theorem c25_28_wp : type_of% (wp_of c25_28.eq_1) := wp_of c25_28.eq_1
@[go_sem] theorem c25_29_wp : type_of% (wp_of c25_29.eq_1) := wp_of c25_29.eq_1
@[go_sem] theorem c25_30_wp : type_of% (wp_of c25_30.eq_1) := wp_of c25_30.eq_1
@[go_sem] theorem c25_31_wp : type_of% (wp_of c25_31.eq_1) := wp_of c25_31.eq_1
@[go_sem] theorem c25_32_wp : type_of% (wp_of c25_32.eq_1) := wp_of c25_32.eq_1
@[go_sem] theorem c25_33_wp : type_of% (wp_of c25_33.eq_1) := wp_of c25_33.eq_1
@[go_sem] theorem c25_34_wp : type_of% (wp_of c25_34.eq_1) := wp_of c25_34.eq_1
@[go_sem] theorem c25_35_wp : type_of% (wp_of c25_35.eq_1) := wp_of c25_35.eq_1
@[go_sem] theorem c25_36_wp : type_of% (wp_of c25_36.eq_1) := wp_of c25_36.eq_1
@[go_sem] theorem c25_37_wp : type_of% (wp_of c25_37.eq_1) := wp_of c25_37.eq_1
@[go_sem] theorem c25_38_wp : type_of% (wp_of c25_38.eq_1) := wp_of c25_38.eq_1
@[go_sem] theorem c25_39_wp : type_of% (wp_of c25_39.eq_1) := wp_of c25_39.eq_1
@[go_sem] theorem c25_40_wp : type_of% (wp_of c25_40.eq_1) := wp_of c25_40.eq_1
@[go_sem] theorem c25_41_wp : type_of% (wp_of c25_41.eq_1) := wp_of c25_41.eq_1
@[go_sem] theorem c25_42_wp : type_of% (wp_of c25_42.eq_1) := wp_of c25_42.eq_1
@[go_sem] theorem c25_43_wp : type_of% (wp_of c25_43.eq_1) := wp_of c25_43.eq_1
@[go_sem] theorem c25_44_wp : type_of% (wp_of c25_44.eq_1) := wp_of c25_44.eq_1
@[go_sem] theorem c25_45_wp : type_of% (wp_of c25_45.eq_1) := wp_of c25_45.eq_1
@[go_sem] theorem c25_46_wp : type_of% (wp_of c25_46.eq_1) := wp_of c25_46.eq_1
@[go_sem] theorem c25_47_wp : type_of% (wp_of c25_47.eq_1) := wp_of c25_47.eq_1
@[go_sem] theorem c25_48_wp : type_of% (wp_of c25_48.eq_1) := wp_of c25_48.eq_1
@[go_sem] theorem c25_49_wp : type_of% (wp_of c25_49.eq_1) := wp_of c25_49.eq_1
def c25 : AFn := ⟨67, [.t 6], c25_49⟩
set_option maxRecDepth 100000 in
theorem c25_ok : compF Tryz.prog Tryz.f25 = some c25 := by kernel_rfl
theorem a25 {args : List AV} {σ : ASt} {R : AV → ASt → Prop} (hl : args.length ≤ 67) (h : c25_49.wp Tryz.prog (RetQ [.t 6] R) (init args) σ) : ACalls Tryz.prog 25 args σ R := acalls_of Tryz.func25 c25_ok hl h

/-! 34: tabular/value.Input -/
def c34_0 : ACode := .ops [
    ⟨(some 2), none, .q (.mv (.v .nili)), []⟩]
def c34_1 : ACode := .ops [
    ⟨(some 12), none, .q (.mv (.t 0)), []⟩,
    ⟨(some 13), none, .e (.call 110 [(.t 12), (.v (.str [39]))]), []⟩,
    ⟨(some 11), none, .q (.mv (.t 13)), []⟩,
    ⟨(some 14), none, .q (.ext 0 (.t 11)), []⟩,
    ⟨(some 15), none, .q (.ext 1 (.t 11)), []⟩,
    ⟨(some 3), none, .q (.mv (.t 14)), []⟩,
    ⟨(some 4), none, .q (.mv (.t 15)), []⟩]
def c34_2 : ACode := .ops [
    ⟨(some 16), none, .q (.mv (.t 4)), []⟩]
def c34_3 : ACode := .ops [
    ⟨(some 17), none, .q (.mv (.t 3)), []⟩,
    ⟨(some 18), none, .q (.mki 124 (.t 17)), []⟩,
    ⟨(some 2), none, .q (.mv (.t 18)), []⟩]
def c34_4 : ACode := .seq c34_3 .ret
def c34_5 : ACode := .cond (.t 16) c34_4 .skip
def c34_6 : ACode := .seq c34_2 c34_5
def c34_7 : ACode := .seq c34_1 c34_6
def c34_8 : ACode := .ops [
    ⟨(some 19), none, .q (.mv (.t 0)), []⟩,
    ⟨(some 20), none, .e (.call 101 [(.t 19)]), []⟩,
    ⟨(some 5), none, .q (.mv (.t 20)), []⟩]
def c34_9 : ACode := .ops [
    ⟨(some 22), none, .q (.mv (.t 5)), []⟩,
    ⟨(some 23), none, .e (.call 100 [(.t 22)]), []⟩,
    ⟨(some 21), none, .q (.mv (.t 23)), []⟩,
    ⟨(some 24), none, .q (.ext 0 (.t 21)), []⟩,
    ⟨(some 25), none, .q (.ext 1 (.t 21)), []⟩,
    ⟨(some 6), none, .q (.mv (.t 24)), []⟩,
    ⟨(some 7), none, .q (.mv (.t 25)), []⟩]
def c34_10 : ACode := .ops [
    ⟨(some 26), none, .q (.mv (.t 7)), []⟩]
def c34_11 : ACode := .ops [
    ⟨(some 27), none, .q (.mv (.t 6)), []⟩,
    ⟨(some 28), none, .q (.mki 80 (.t 27)), []⟩,
    ⟨(some 2), none, .q (.mv (.t 28)), []⟩]
def c34_12 : ACode := .seq c34_11 .ret
def c34_13 : ACode := .cond (.t 26) c34_12 .skip
def c34_14 : ACode := .seq c34_10 c34_13
def c34_15 : ACode := .seq c34_9 c34_14
def c34_16 : ACode := .ops [
    ⟨(some 29), none, .q (.mv (.t 5)), []⟩,
    ⟨(some 30), none, .e (.call 88 [(.t 29)]), []⟩,
    ⟨(some 8), none, .q (.mv (.t 30)), []⟩]
def c34_17 : ACode := .ops [
    ⟨(some 31), none, .q (.mv (.t 8)), []⟩]
def c34_18 : ACode := .ops [
    ⟨(some 33), none, .q (.bin .eql (.t 31) (.v (.str []))), []⟩,
    ⟨(some 32), none, .q (.mv (.t 33)), []⟩]
def c34_19 : ACode := .ops [
    ⟨(some 34), none, .q (.build [] []), []⟩,
    ⟨(some 35), none, .q (.mki 143 (.t 34)), []⟩,
    ⟨(some 2), none, .q (.mv (.t 35)), []⟩]
def c34_20 : ACode := .seq c34_19 .ret
def c34_21 : ACode := .ops [
    ⟨(some 37), none, .q (.bin .eql (.t 31) (.v (.str [84, 82, 85, 69]))), []⟩,
    ⟨(some 36), none, .q (.mv (.t 37)), []⟩]
def c34_22 : ACode := .ops [
    ⟨(some 38), none, .q (.mki 127 (.v (.bool true))), []⟩,
    ⟨(some 2), none, .q (.mv (.t 38)), []⟩]
def c34_23 : ACode := .seq c34_22 .ret
def c34_24 : ACode := .ops [
    ⟨(some 40), none, .q (.bin .eql (.t 31) (.v (.str [70, 65, 76, 83, 69]))), []⟩,
    ⟨(some 39), none, .q (.mv (.t 40)), []⟩]
def c34_25 : ACode := .ops [
    ⟨(some 41), none, .q (.mki 127 (.v (.bool false))), []⟩,
    ⟨(some 2), none, .q (.mv (.t 41)), []⟩]
def c34_26 : ACode := .seq c34_25 .ret
def c34_27 : ACode := .cond (.t 39) c34_26 .skip
def c34_28 : ACode := .seq c34_24 c34_27
def c34_29 : ACode := .cond (.t 36) c34_23 c34_28
def c34_30 : ACode := .seq c34_21 c34_29
def c34_31 : ACode := .cond (.t 32) c34_20 c34_30
def c34_32 : ACode := .seq c34_18 c34_31
def c34_33 : ACode := .block 0 c34_32
def c34_34 : ACode := .seq c34_17 c34_33
def c34_35 : ACode := .ops [
    ⟨(some 42), none, .e (.call 111 []), []⟩,
    ⟨(some 43), none, .q (.len (.t 42)), []⟩,
    ⟨(some 44), none, .q (.mv (.v (.int .i64 0))), []⟩]
def c34_36 : ACode := .ops [
    ⟨(some 45), none, .q (.bin .lss (.t 44) (.t 43)), []⟩]
def c34_37 : ACode := .cond (.t 45) .skip (.exit 1)
def c34_38 : ACode := .ops [
    ⟨(some 46), none, .q (.mv (.t 44)), []⟩,
    ⟨(some 47), none, .q (.ia 1 (.t 42) (.t 44)), []⟩,
    ⟨(some 48), none, .q (.ld none (.t 47)), []⟩,
    ⟨(some 9), none, .q (.mv (.t 46)), []⟩,
    ⟨(some 10), none, .q (.mv (.t 48)), []⟩]
def c34_39 : ACode := .ops [
    ⟨(some 49), none, .q (.mv (.t 8)), []⟩,
    ⟨(some 50), none, .q (.mv (.t 10)), []⟩,
    ⟨(some 51), none, .q (.bin .eql (.t 49) (.t 50)), []⟩]
def c34_40 : ACode := .ops [
    ⟨(some 52), none, .q (.mv (.t 9)), []⟩,
    ⟨(some 53), none, .q (.bin .add (.t 52) (.v (.int .i64 1))), []⟩,
    ⟨(some 54), none, .q (.mki 51 (.t 53)), []⟩,
    ⟨(some 2), none, .q (.mv (.t 54)), []⟩]
def c34_41 : ACode := .seq c34_40 .ret
def c34_42 : ACode := .cond (.t 51) c34_41 .skip
def c34_43 : ACode := .seq c34_39 c34_42
def c34_44 : ACode := .seq c34_38 c34_43
def c34_45 : ACode := .block 2 c34_44
def c34_46 : ACode := .ops [
    ⟨(some 55), none, .q (.bin .add (.t 44) (.v (.int .i64 1))), []⟩,
    ⟨(some 44), none, .q (.mv (.t 55)), []⟩]
def c34_47 : ACode := .seq c34_45 c34_46
def c34_48 : ACode := .seq c34_37 c34_47
def c34_49 : ACode := .seq c34_36 c34_48
def c34_50 : ACode := .loop c34_49
def c34_51 : ACode := .block 1 c34_50
def c34_52 : ACode := .seq c34_35 c34_51
def c34_53 : ACode := .ops [
    ⟨(some 56), none, .q (.mv (.t 0)), []⟩,
    ⟨(some 57), none, .q (.mki 124 (.t 56)), []⟩,
    ⟨(some 2), none, .q (.mv (.t 57)), []⟩]
def c34_54 : ACode := .seq c34_53 .ret
def c34_55 : ACode := .seq c34_52 c34_54
def c34_56 : ACode := .seq c34_34 c34_55
def c34_57 : ACode := .seq c34_16 c34_56
def c34_58 : ACode := .seq c34_15 c34_57
def c34_59 : ACode := .seq c34_8 c34_58
def c34_60 : ACode := .seq c34_7 c34_59
def c34_61 : ACode := .seq c34_0 c34_60
@[go_sem] theorem c34_0_wp : type_of% (wp_of c34_0.eq_1) := wp_of c34_0.eq_1
@[go_sem] theorem c34_1_wp : type_of% (wp_of c34_1.eq_1) := wp_of c34_1.eq_1
@[go_sem] theorem c34_2_wp : type_of% (wp_of c34_2.eq_1) := wp_of c34_2.eq_1
@[go_sem] theorem c34_3_wp : type_of% (wp_of c34_3.eq_1) := wp_of c34_3.eq_1
@[go_sem] theorem c34_4_wp : type_of% (wp_of c34_4.eq_1) := wp_of c34_4.eq_1
@[go_sem] theorem c34_5_wp : type_of% (wp_of c34_5.eq_1) := wp_of c34_5.eq_1
@[go_sem] theorem c34_6_wp : type_of% (wp_of c34_6.eq_1) := wp_of c34_6.eq_1
@[go_sem] theorem c34_7_wp : type_of% (wp_of c34_7.eq_1) := wp_of c34_7.eq_1
@[go_sem] theorem c34_8_wp : type_of% (wp_of c34_8.eq_1) := wp_of c34_8.eq_1
@[go_sem] theorem c34_9_wp : type_of% (wp_of c34_9.eq_1) := wp_of c34_9.eq_1
@[go_sem] theorem c34_10_wp : type_of% (wp_of c34_10.eq_1) := wp_of c34_10.eq_1
@[go_sem] theorem c34_11_wp : type_of% (wp_of c34_11.eq_1) := wp_of c34_11.eq_1
@[go_sem] theorem c34_12_wp : type_of% (wp_of c34_12.eq_1) := wp_of c34_12.eq_1
@[go_sem] theorem c34_13_wp : type_of% (wp_of c34_13.eq_1) := wp_of c34_13.eq_1
@[go_sem] theorem c34_14_wp : type_of% (wp_of c34_14.eq_1) := wp_of c34_14.eq_1
@[go_sem] theorem c34_15_wp : type_of% (wp_of c34_15.eq_1) := wp_of c34_15.eq_1
@[go_sem] theorem c34_16_wp : type_of% (wp_of c34_16.eq_1) := wp_of c34_16.eq_1
@[go_sem] theorem c34_17_wp : type_of% (wp_of c34_17.eq_1) := wp_of c34_17.eq_1
@[go_sem] theorem c34_18_wp : type_of% (wp_of c34_18.eq_1) := wp_of c34_18.eq_1
@[go_sem] theorem c34_19_wp : type_of% (wp_of c34_19.eq_1) := wp_of c34_19.eq_1
@[go_sem] theorem c34_20_wp : type_of% (wp_of c34_20.eq_1) := wp_of c34_20.eq_1
@[go_sem] theorem c34_21_wp : type_of% (wp_of c34_21.eq_1) := wp_of c34_21.eq_1
@[go_sem] theorem c34_22_wp : type_of% (wp_of c34_22.eq_1) := wp_of c34_22.eq_1
@[go_sem] theorem c34_23_wp : type_of% (wp_of c34_23.eq_1) := wp_of c34_23.eq_1
@[go_sem] theorem c34_24_wp : type_of% (wp_of c34_24.eq_1) := wp_of c34_24.eq_1
@[go_sem] theorem c34_25_wp : type_of% (wp_of c34_25.eq_1) := wp_of c34_25.eq_1
@[go_sem] theorem c34_26_wp : type_of% (wp_of c34_26.eq_1) := wp_of c34_26.eq_1
@[go_sem] theorem c34_27_wp : type_of% (wp_of c34_27.eq_1) := wp_of c34_27.eq_1
@[go_sem] theorem c34_28_wp : type_of% (wp_of c34_28.eq_1) := wp_of c34_28.eq_1
@[go_sem] theorem c34_29_wp : type_of% (wp_of c34_29.eq_1) := wp_of c34_29.eq_1
@[go_sem] theorem c34_30_wp : type_of% (wp_of c34_30.eq_1) := wp_of c34_30.eq_1
@[go_sem] theorem c34_31_wp : type_of% (wp_of c34_31.eq_1) := wp_of c34_31.eq_1
@[go_sem] theorem c34_32_wp : type_of% (wp_of c34_32.eq_1) := wp_of c34_32.eq_1
@[go_sem] theorem c34_33_wp : type_of% (wp_of c34_33.eq_1) := wp_of c34_33.eq_1
@[go_sem] theorem c34_34_wp : type_of% (wp_of c34_34.eq_1) := wp_of c34_34.eq_1
@[go_sem] theorem c34_35_wp : type_of% (wp_of c34_35.eq_1) := wp_of c34_35.eq_1
@[go_sem] theorem c34_36_wp : type_of% (wp_of c34_36.eq_1) := wp_of c34_36.eq_1
@[go_sem] theorem c34_37_wp : type_of% (wp_of c34_37.eq_1) := wp_of c34_37.eq_1
@[go_sem] theorem c34_38_wp : type_of% (wp_of c34_38.eq_1) := wp_of c34_38.eq_1
@[go_sem] theorem c34_39_wp : type_of% (wp_of c34_39.eq_1) := wp_of c34_39.eq_1
@[go_sem] theorem c34_40_wp : type_of% (wp_of c34_40.eq_1) := wp_of c34_40.eq_1
@[go_sem] theorem c34_41_wp : type_of% (wp_of c34_41.eq_1) := wp_of c34_41.eq_1
@[go_sem] theorem c34_42_wp : type_of% (wp_of c34_42.eq_1) := wp_of c34_42.eq_1
@[go_sem] theorem c34_43_wp : type_of% (wp_of c34_43.eq_1) := wp_of c34_43.eq_1
@[go_sem] theorem c34_44_wp : type_of% (wp_of c34_44.eq_1) := wp_of c34_44.eq_1
@[go_sem] theorem c34_45_wp : type_of% (wp_of c34_45.eq_1) := wp_of c34_45.eq_1
@[go_sem] theorem c34_46_wp : type_of% (wp_of c34_46.eq_1) := wp_of c34_46.eq_1
@[go_sem] theorem c34_47_wp : type_of% (wp_of c34_47.eq_1) := wp_of c34_47.eq_1
@[go_sem] theorem c34_48_wp : type_of% (wp_of c34_48.eq_1) := wp_of c34_48.eq_1
@[go_sem] theorem c34_49_wp : type_of% (wp_of c34_49.eq_1) := wp_of c34_49.eq_1
@[go_sem] theorem c34_50_wp : type_of% (wp_of c34_50.eq_1) := wp_of c34_50.eq_1
@[go_sem] theorem c34_51_wp : type_of% (wp_of c34_51.eq_1) := wp_of c34_51.eq_1
@[go_sem] theorem c34_52_wp : type_of% (wp_of c34_52.eq_1) := wp_of c34_52.eq_1
@[go_sem] theorem c34_53_wp : type_of% (wp_of c34_53.eq_1) := wp_of c34_53.eq_1
@[go_sem] theorem c34_54_wp : type_of% (wp_of c34_54.eq_1) := wp_of c34_54.eq_1
@[go_sem] theorem c34_55_wp : type_of% (wp_of c34_55.eq_1) := wp_of c34_55.eq_1
@[go_sem] theorem c34_56_wp : type_of% (wp_of c34_56.eq_1) := wp_of c34_56.eq_1
@[go_sem] theorem c34_57_wp : type_of% (wp_of c34_57.eq_1) := wp_of c34_57.eq_1
@[go_sem] theorem c34_58_wp : type_of% (wp_of c34_58.eq_1) := wp_of c34_58.eq_1
@[go_sem] theorem c34_59_wp : type_of% (wp_of c34_59.eq_1) := wp_of c34_59.eq_1
@[go_sem] theorem c34_60_wp : type_of% (wp_of c34_60.eq_1) := wp_of c34_60.eq_1
@[go_sem] theorem c34_61_wp : type_of% (wp_of c34_61.eq_1) := wp_of c34_61.eq_1
def c34 : AFn := ⟨58, [.t 2], c34_61⟩
set_option maxRecDepth 100000 in
theorem c34_ok : compF Tryz.prog Tryz.f34 = some c34 := by kernel_rfl
theorem a34 {args : List AV} {σ : ASt} {R : AV → ASt → Prop} (hl : args.length ≤ 58) (h : c34_61.wp Tryz.prog (RetQ [.t 2] R) (init args) σ) : ACalls Tryz.prog 34 args σ R := acalls_of Tryz.func34 c34_ok hl h

/-! 35: tabular/value.Typed -/
def c35_0 : ACode := .ops [
    ⟨(some 2), none, .q (.mv (.v (.str []))), []⟩]
def c35_1 : ACode := .ops [
    ⟨(some 8), none, .q (.mv (.t 0)), []⟩,
    ⟨(some 9), none, .q (.ta 124 (.str []) true (.t 8)), []⟩,
    ⟨(some 7), none, .q (.mv (.t 9)), []⟩,
    ⟨(some 10), none, .q (.ext 0 (.t 7)), []⟩,
    ⟨(some 11), none, .q (.ext 1 (.t 7)), []⟩,
    ⟨(some 3), none, .q (.mv (.t 10)), []⟩,
    ⟨(some 4), none, .q (.mv (.t 11)), []⟩]
def c35_2 : ACode := .ops [
    ⟨(some 12), none, .q (.mv (.t 4)), []⟩,
    ⟨(some 13), none, .q (.un .not (.t 12)), []⟩]
def c35_3 : ACode := .ops [
    ⟨(some 14), none, .q (.mv (.t 0)), []⟩,
    ⟨(some 15), none, .e (.call 81 [(.t 14)]), []⟩,
    ⟨(some 2), none, .q (.mv (.t 15)), []⟩]
def c35_4 : ACode := .seq c35_3 .ret
def c35_5 : ACode := .cond (.t 13) c35_4 .skip
def c35_6 : ACode := .seq c35_2 c35_5
def c35_7 : ACode := .ops [
    ⟨(some 17), none, .q (.mv (.t 3)), []⟩,
    ⟨(some 18), none, .e (.call 34 [(.t 17)]), []⟩,
    ⟨(some 19), none, .q (.ta 124 (.str []) true (.t 18)), []⟩,
    ⟨(some 16), none, .q (.mv (.t 19)), []⟩,
    ⟨(some 20), none, .q (.ext 0 (.t 16)), []⟩,
    ⟨(some 21), none, .q (.ext 1 (.t 16)), []⟩,
    ⟨(some 5), none, .q (.mv (.t 20)), []⟩,
    ⟨(some 6), none, .q (.mv (.t 21)), []⟩]
def c35_8 : ACode := .ops [
    ⟨(some 22), none, .q (.mv (.t 6)), []⟩,
    ⟨(some 23), none, .q (.mv (.t 22)), []⟩,
    ⟨(some 24), (some (23, true)), .q (.mv (.t 5)), []⟩,
    ⟨(some 25), (some (23, true)), .q (.mv (.t 3)), []⟩,
    ⟨(some 26), (some (23, true)), .q (.bin .eql (.t 24) (.t 25)), []⟩,
    ⟨(some 27), none, .q (.pick (.t 23) (.t 26) (.v (.bool false))), []⟩]
def c35_9 : ACode := .ops [
    ⟨(some 28), none, .q (.mv (.t 3)), []⟩,
    ⟨(some 2), none, .q (.mv (.t 28)), []⟩]
def c35_10 : ACode := .seq c35_9 .ret
def c35_11 : ACode := .cond (.t 27) c35_10 .skip
def c35_12 : ACode := .seq c35_8 c35_11
def c35_13 : ACode := .seq c35_7 c35_12
def c35_14 : ACode := .ops [
    ⟨(some 29), none, .q (.mv (.t 3)), []⟩,
    ⟨(some 30), none, .q (.bin .add (.v (.str [39])) (.t 29)), []⟩,
    ⟨(some 2), none, .q (.mv (.t 30)), []⟩]
def c35_15 : ACode := .seq c35_14 .ret
def c35_16 : ACode := .seq c35_13 c35_15
def c35_17 : ACode := .seq c35_6 c35_16
def c35_18 : ACode := .seq c35_1 c35_17
def c35_19 : ACode := .seq c35_0 c35_18
@[go_sem] theorem c35_0_wp : type_of% (wp_of c35_0.eq_1) := wp_of c35_0.eq_1
@[go_sem] theorem c35_1_wp : type_of% (wp_of c35_1.eq_1) := wp_of c35_1.eq_1
@[go_sem] theorem c35_2_wp : type_of% (wp_of c35_2.eq_1) := wp_of c35_2.eq_1
@[go_sem] theorem c35_3_wp : type_of% (wp_of c35_3.eq_1) := wp_of c35_3.eq_1
@[go_sem] theorem c35_4_wp : type_of% (wp_of c35_4.eq_1) := wp_of c35_4.eq_1
@[go_sem] theorem c35_5_wp : type_of% (wp_of c35_5.eq_1) := wp_of c35_5.eq_1
@[go_sem] theorem c35_6_wp : type_of% (wp_of c35_6.eq_1) := wp_of c35_6.eq_1
@[go_sem] theorem c35_7_wp : type_of% (wp_of c35_7.eq_1) := wp_of c35_7.eq_1
@[go_sem] theorem c35_8_wp : type_of% (wp_of c35_8.eq_1) := wp_of c35_8.eq_1
@[go_sem] theorem c35_9_wp : type_of% (wp_of c35_9.eq_1) := wp_of c35_9.eq_1
@[go_sem] theorem c35_10_wp : type_of% (wp_of c35_10.eq_1) := wp_of c35_10.eq_1
@[go_sem] theorem c35_11_wp : type_of% (wp_of c35_11.eq_1) := wp_of c35_11.eq_1
@[go_sem] theorem c35_12_wp : type_of% (wp_of c35_12.eq_1) := wp_of c35_12.eq_1
@[go_sem] theorem c35_13_wp : type_of% (wp_of c35_13.eq_1) := wp_of c35_13.eq_1
@[go_sem] theorem c35_14_wp : type_of% (wp_of c35_14.eq_1) := wp_of c35_14.eq_1
@[go_sem] theorem c35_15_wp : type_of% (wp_of c35_15.eq_1) := wp_of c35_15.eq_1
@[go_sem] theorem c35_16_wp : type_of% (wp_of c35_16.eq_1) := wp_of c35_16.eq_1
@[go_sem] theorem c35_17_wp : type_of% (wp_of c35_17.eq_1) := wp_of c35_17.eq_1
@[go_sem] theorem c35_18_wp : type_of% (wp_of c35_18.eq_1) := wp_of c35_18.eq_1
@[go_sem] theorem c35_19_wp : type_of% (wp_of c35_19.eq_1) := wp_of c35_19.eq_1
def c35 : AFn := ⟨31, [.t 2], c35_19⟩
set_option maxRecDepth 100000 in
theorem c35_ok : compF Tryz.prog Tryz.f35 = some c35 := by kernel_rfl
theorem a35 {args : List AV} {σ : ASt} {R : AV → ASt → Prop} (hl : args.length ≤ 31) (h : c35_19.wp Tryz.prog (RetQ [.t 2] R) (init args) σ) : ACalls Tryz.prog 35 args σ R := acalls_of Tryz.func35 c35_ok hl h

/-! 81: tabular/value.Show -/
def c81_0 : ACode := .ops [
    ⟨(some 2), none, .q (.mv (.v (.str []))), []⟩]
def c81_1 : ACode := .ops [
    ⟨(some 8), none, .q (.mv (.t 0)), []⟩,
    ⟨(some 9), none, .e (.call 91 [(.t 8)]), []⟩,
    ⟨(some 7), none, .q (.mv (.t 9)), []⟩,
    ⟨(some 10), none, .q (.ext 0 (.t 7)), []⟩,
    ⟨(some 11), none, .q (.ext 1 (.t 7)), []⟩,
    ⟨(some 3), none, .q (.mv (.t 10)), []⟩,
    ⟨(some 4), none, .q (.mv (.t 11)), []⟩]
def c81_2 : ACode := .ops [
    ⟨(some 12), none, .q (.mv (.t 4)), []⟩]
def c81_3 : ACode := .ops [
    ⟨(some 13), none, .e (.call 111 []), []⟩,
    ⟨(some 14), none, .q (.mv (.t 3)), []⟩,
    ⟨(some 15), none, .q (.bin .sub (.t 14) (.v (.int .i64 1))), []⟩,
    ⟨(some 16), none, .q (.ia 1 (.t 13) (.t 15)), []⟩,
    ⟨(some 17), none, .q (.ld none (.t 16)), []⟩,
    ⟨(some 2), none, .q (.mv (.t 17)), []⟩]
def c81_4 : ACode := .seq c81_3 .ret
def c81_5 : ACode := .cond (.t 12) c81_4 .skip
def c81_6 : ACode := .seq c81_2 c81_5
def c81_7 : ACode := .seq c81_1 c81_6
def c81_8 : ACode := .ops [
    ⟨(some 19), none, .q (.mv (.t 0)), []⟩,
    ⟨(some 20), none, .e (.call 28 [(.t 19)]), []⟩,
    ⟨(some 18), none, .q (.mv (.t 20)), []⟩,
    ⟨(some 21), none, .q (.ext 0 (.t 18)), []⟩,
    ⟨(some 22), none, .q (.ext 1 (.t 18)), []⟩,
    ⟨(some 5), none, .q (.mv (.t 21)), []⟩,
    ⟨(some 6), none, .q (.mv (.t 22)), []⟩]
def c81_9 : ACode := .ops [
    ⟨(some 23), none, .q (.mv (.t 5)), []⟩,
    ⟨(some 2), none, .q (.mv (.t 23)), []⟩]
def c81_10 : ACode := .seq c81_9 .ret
def c81_11 : ACode := .seq c81_8 c81_10
def c81_12 : ACode := .seq c81_7 c81_11
def c81_13 : ACode := .seq c81_0 c81_12
@[go_sem] theorem c81_0_wp : type_of% (wp_of c81_0.eq_1) := wp_of c81_0.eq_1
@[go_sem] theorem c81_1_wp : type_of% (wp_of c81_1.eq_1) := wp_of c81_1.eq_1
@[go_sem] theorem c81_2_wp : type_of% (wp_of c81_2.eq_1) := wp_of c81_2.eq_1
@[go_sem] theorem c81_3_wp : type_of% (wp_of c81_3.eq_1) := wp_of c81_3.eq_1
@[go_sem] theorem c81_4_wp : type_of% (wp_of c81_4.eq_1) := wp_of c81_4.eq_1
@[go_sem] theorem c81_5_wp : type_of% (wp_of c81_5.eq_1) := wp_of c81_5.eq_1
@[go_sem] theorem c81_6_wp : type_of% (wp_of c81_6.eq_1) := wp_of c81_6.eq_1
@[go_sem] theorem c81_7_wp : type_of% (wp_of c81_7.eq_1) := wp_of c81_7.eq_1
@[go_sem] theorem c81_8_wp : type_of% (wp_of c81_8.eq_1) := wp_of c81_8.eq_1
@[go_sem] theorem c81_9_wp : type_of% (wp_of c81_9.eq_1) := wp_of c81_9.eq_1
@[go_sem] theorem c81_10_wp : type_of% (wp_of c81_10.eq_1) := wp_of c81_10.eq_1
@[go_sem] theorem c81_11_wp : type_of% (wp_of c81_11.eq_1) := wp_of c81_11.eq_1
@[go_sem] theorem c81_12_wp : type_of% (wp_of c81_12.eq_1) := wp_of c81_12.eq_1
@[go_sem] theorem c81_13_wp : type_of% (wp_of c81_13.eq_1) := wp_of c81_13.eq_1
def c81 : AFn := ⟨24, [.t 2], c81_13⟩
set_option maxRecDepth 100000 in
theorem c81_ok : compF Tryz.prog Tryz.f81 = some c81 := by kernel_rfl
theorem a81 {args : List AV} {σ : ASt} {R : AV → ASt → Prop} (hl : args.length ≤ 24) (h : c81_13.wp Tryz.prog (RetQ [.t 2] R) (init args) σ) : ACalls Tryz.prog 81 args σ R := acalls_of Tryz.func81 c81_ok hl h

end Go.A
