/- The functions, compiled: by program (wip/gencode.py). -/
import Derived.Test.YtmefepbdognkdaaGreatDoorBk
import Derived.Test.YtmefepbdognkdaaGreatDoorProg
import Derived.KernelRfl
namespace Go.A
open Go.Proofs

/-! 61: tabular/tabularref15.Fail -/
def c61_0 : ACode := .ops [
    ⟨(some 2), none, .e (.alloc [(.int .i64 0), (.int .i64 0), (.str [])]), []⟩]
def c61_1 : ACode := .ops [
    ⟨(some 3), none, .q (.mv (.t 0)), []⟩,
    ⟨(some 4), none, .q (.build [(.int .i64 0), (.int .i64 0), (.str [])] [(0, 1, (.v (.int .i64 4))), (1, 1, (.t 3))]), []⟩,
    ⟨none, none, .e (.store 3 (.t 2) (.t 4)), []⟩]
def c61_2 : ACode := .seq c61_1 .ret
def c61_3 : ACode := .seq c61_0 c61_2
@[go_sem] theorem c61_0_wp : type_of% (wp_of c61_0.eq_1) := wp_of c61_0.eq_1
@[go_sem] theorem c61_1_wp : type_of% (wp_of c61_1.eq_1) := wp_of c61_1.eq_1
@[go_sem] theorem c61_2_wp : type_of% (wp_of c61_2.eq_1) := wp_of c61_2.eq_1
@[go_sem] theorem c61_3_wp : type_of% (wp_of c61_3.eq_1) := wp_of c61_3.eq_1
def c61 : AFn := ⟨5, [.c 2 (some 3)], c61_3⟩
set_option maxRecDepth 100000 in
theorem c61_ok : compF Tryz.prog Tryz.f61 = some c61 := by kernel_rfl
theorem a61 {args : List AV} {σ : ASt} {R : AV → ASt → Prop} (hl : args.length ≤ 5) (h : c61_3.wp Tryz.prog (RetQ [.c 2 (some 3)] R) (init args) σ) : ACalls Tryz.prog 61 args σ R := acalls_of Tryz.func61 c61_ok hl h

/-! 63: tabular/tabularref15.Num -/
def c63_0 : ACode := .ops [
    ⟨(some 2), none, .e (.alloc [(.int .i64 0), (.int .i64 0), (.str [])]), []⟩]
def c63_1 : ACode := .ops [
    ⟨(some 3), none, .q (.mv (.t 0)), []⟩,
    ⟨(some 4), none, .q (.build [(.int .i64 0), (.int .i64 0), (.str [])] [(0, 1, (.v (.int .i64 1))), (1, 1, (.t 3))]), []⟩,
    ⟨none, none, .e (.store 3 (.t 2) (.t 4)), []⟩]
def c63_2 : ACode := .seq c63_1 .ret
def c63_3 : ACode := .seq c63_0 c63_2
@[go_sem] theorem c63_0_wp : type_of% (wp_of c63_0.eq_1) := wp_of c63_0.eq_1
@[go_sem] theorem c63_1_wp : type_of% (wp_of c63_1.eq_1) := wp_of c63_1.eq_1
@[go_sem] theorem c63_2_wp : type_of% (wp_of c63_2.eq_1) := wp_of c63_2.eq_1
@[go_sem] theorem c63_3_wp : type_of% (wp_of c63_3.eq_1) := wp_of c63_3.eq_1
def c63 : AFn := ⟨5, [.c 2 (some 3)], c63_3⟩
set_option maxRecDepth 100000 in
theorem c63_ok : compF Tryz.prog Tryz.f63 = some c63 := by kernel_rfl
theorem a63 {args : List AV} {σ : ASt} {R : AV → ASt → Prop} (hl : args.length ≤ 5) (h : c63_3.wp Tryz.prog (RetQ [.c 2 (some 3)] R) (init args) σ) : ACalls Tryz.prog 63 args σ R := acalls_of Tryz.func63 c63_ok hl h

/-! 92: tabular/tabularref15.Bool -/
def c92_0 : ACode := .ops [
    ⟨(some 2), none, .e (.alloc [(.int .i64 0), (.int .i64 0), (.str [])]), []⟩]
def c92_1 : ACode := .ops [
    ⟨(some 3), none, .q (.mv (.t 0)), []⟩]
def c92_2 : ACode := .ops [
    ⟨(some 4), none, .q (.build [(.int .i64 0), (.int .i64 0), (.str [])] [(0, 1, (.v (.int .i64 3))), (1, 1, (.v (.int .i64 1)))]), []⟩,
    ⟨none, none, .e (.store 3 (.t 2) (.t 4)), []⟩]
def c92_3 : ACode := .seq c92_2 .ret
def c92_4 : ACode := .cond (.t 3) c92_3 .skip
def c92_5 : ACode := .seq c92_1 c92_4
def c92_6 : ACode := .ops [
    ⟨(some 5), none, .q (.build [(.int .i64 0), (.int .i64 0), (.str [])] [(0, 1, (.v (.int .i64 3)))]), []⟩,
    ⟨none, none, .e (.store 3 (.t 2) (.t 5)), []⟩]
def c92_7 : ACode := .seq c92_6 .ret
def c92_8 : ACode := .seq c92_5 c92_7
def c92_9 : ACode := .seq c92_0 c92_8
@[go_sem] theorem c92_0_wp : type_of% (wp_of c92_0.eq_1) := wp_of c92_0.eq_1
@[go_sem] theorem c92_1_wp : type_of% (wp_of c92_1.eq_1) := wp_of c92_1.eq_1
@[go_sem] theorem c92_2_wp : type_of% (wp_of c92_2.eq_1) := wp_of c92_2.eq_1
@[go_sem] theorem c92_3_wp : type_of% (wp_of c92_3.eq_1) := wp_of c92_3.eq_1
@[go_sem] theorem c92_4_wp : type_of% (wp_of c92_4.eq_1) := wp_of c92_4.eq_1
@[go_sem] theorem c92_5_wp : type_of% (wp_of c92_5.eq_1) := wp_of c92_5.eq_1
@[go_sem] theorem c92_6_wp : type_of% (wp_of c92_6.eq_1) := wp_of c92_6.eq_1
@[go_sem] theorem c92_7_wp : type_of% (wp_of c92_7.eq_1) := wp_of c92_7.eq_1
@[go_sem] theorem c92_8_wp : type_of% (wp_of c92_8.eq_1) := wp_of c92_8.eq_1
@[go_sem] theorem c92_9_wp : type_of% (wp_of c92_9.eq_1) := wp_of c92_9.eq_1
def c92 : AFn := ⟨6, [.c 2 (some 3)], c92_9⟩
set_option maxRecDepth 100000 in
theorem c92_ok : compF Tryz.prog Tryz.f92 = some c92 := by kernel_rfl
theorem a92 {args : List AV} {σ : ASt} {R : AV → ASt → Prop} (hl : args.length ≤ 6) (h : c92_9.wp Tryz.prog (RetQ [.c 2 (some 3)] R) (init args) σ) : ACalls Tryz.prog 92 args σ R := acalls_of Tryz.func92 c92_ok hl h

/-! 138: tabular/tabularref15.Text -/
def c138_0 : ACode := .ops [
    ⟨(some 2), none, .e (.alloc [(.int .i64 0), (.int .i64 0), (.str [])]), []⟩]
def c138_1 : ACode := .ops [
    ⟨(some 3), none, .q (.mv (.t 0)), []⟩,
    ⟨(some 4), none, .q (.build [(.int .i64 0), (.int .i64 0), (.str [])] [(0, 1, (.v (.int .i64 2))), (2, 1, (.t 3))]), []⟩,
    ⟨none, none, .e (.store 3 (.t 2) (.t 4)), []⟩]
def c138_2 : ACode := .seq c138_1 .ret
def c138_3 : ACode := .seq c138_0 c138_2
@[go_sem] theorem c138_0_wp : type_of% (wp_of c138_0.eq_1) := wp_of c138_0.eq_1
@[go_sem] theorem c138_1_wp : type_of% (wp_of c138_1.eq_1) := wp_of c138_1.eq_1
@[go_sem] theorem c138_2_wp : type_of% (wp_of c138_2.eq_1) := wp_of c138_2.eq_1
@[go_sem] theorem c138_3_wp : type_of% (wp_of c138_3.eq_1) := wp_of c138_3.eq_1
def c138 : AFn := ⟨5, [.c 2 (some 3)], c138_3⟩
set_option maxRecDepth 100000 in
theorem c138_ok : compF Tryz.prog Tryz.f138 = some c138 := by kernel_rfl
theorem a138 {args : List AV} {σ : ASt} {R : AV → ASt → Prop} (hl : args.length ≤ 5) (h : c138_3.wp Tryz.prog (RetQ [.c 2 (some 3)] R) (init args) σ) : ACalls Tryz.prog 138 args σ R := acalls_of Tryz.func138 c138_ok hl h

/-! 150: tabular/tabularref11.Sign -/
def c150_0 : ACode := .ops [
    ⟨(some 4), none, .q (.mv (.v (.int .i64 0))), []⟩]
def c150_1 : ACode := .ops [
    ⟨(some 8), none, .q (.mv (.t 1)), []⟩,
    ⟨(some 9), none, .q (.mv (.t 0)), []⟩,
    ⟨(some 10), none, .q (.lenS (.t 9)), []⟩,
    ⟨(some 11), none, .q (.bin .geq (.t 8) (.t 10)), []⟩]
def c150_2 : ACode := .ops [
    ⟨(some 4), none, .q (.mv (.v (.int .i64 0))), []⟩]
def c150_3 : ACode := .seq c150_2 .ret
def c150_4 : ACode := .cond (.t 11) c150_3 .skip
def c150_5 : ACode := .seq c150_1 c150_4
def c150_6 : ACode := .ops [
    ⟨(some 12), none, .q (.mv (.t 0)), []⟩,
    ⟨(some 13), none, .q (.mv (.t 1)), []⟩,
    ⟨(some 14), none, .q (.idx (.t 12) (.t 13)), []⟩,
    ⟨(some 15), none, .q (.conv .i64 (.t 14)), []⟩,
    ⟨(some 5), none, .q (.mv (.t 15)), []⟩]
def c150_7 : ACode := .ops [
    ⟨(some 16), none, .q (.mv (.t 5)), []⟩,
    ⟨(some 17), none, .q (.bin .lss (.t 16) (.v (.int .i64 128))), []⟩]
def c150_8 : ACode := .ops [
    ⟨(some 4), none, .q (.mv (.v (.int .i64 1))), []⟩]
def c150_9 : ACode := .seq c150_8 .ret
def c150_10 : ACode := .cond (.t 17) c150_9 .skip
def c150_11 : ACode := .seq c150_7 c150_10
def c150_12 : ACode := .ops [
    ⟨(some 18), none, .q (.mv (.t 5)), []⟩,
    ⟨(some 19), none, .q (.bin .geq (.t 18) (.v (.int .i64 194))), []⟩,
    ⟨(some 20), none, .q (.mv (.t 19)), []⟩,
    ⟨(some 21), (some (20, true)), .q (.mv (.t 5)), []⟩,
    ⟨(some 22), (some (20, true)), .q (.bin .leq (.t 21) (.v (.int .i64 223))), []⟩,
    ⟨(some 23), none, .q (.pick (.t 20) (.t 22) (.v (.bool false))), []⟩,
    ⟨(some 24), none, .q (.mv (.t 23)), []⟩,
    ⟨(some 25), (some (24, true)), .q (.mv (.t 0)), []⟩,
    ⟨(some 26), (some (24, true)), .q (.mv (.t 1)), []⟩,
    ⟨(some 27), (some (24, true)), .q (.bin .add (.t 26) (.v (.int .i64 1))), []⟩,
    ⟨(some 28), (some (24, true)), .e (.call 164 [(.t 25), (.t 27), (.v (.int .i64 128)), (.v (.int .i64 191))]), []⟩,
    ⟨(some 29), none, .q (.pick (.t 24) (.t 28) (.v (.bool false))), []⟩]
def c150_13 : ACode := .ops [
    ⟨(some 4), none, .q (.mv (.v (.int .i64 2))), []⟩]
def c150_14 : ACode := .seq c150_13 .ret
def c150_15 : ACode := .cond (.t 29) c150_14 .skip
def c150_16 : ACode := .seq c150_12 c150_15
def c150_17 : ACode := .ops [
    ⟨(some 6), none, .q (.mv (.v (.int .i64 128))), []⟩,
    ⟨(some 7), none, .q (.mv (.v (.int .i64 191))), []⟩]
def c150_18 : ACode := .ops [
    ⟨(some 30), none, .q (.mv (.t 5)), []⟩,
    ⟨(some 31), none, .q (.bin .eql (.t 30) (.v (.int .i64 224))), []⟩,
    ⟨(some 32), none, .q (.mv (.t 31)), []⟩,
    ⟨(some 33), (some (32, false)), .q (.mv (.t 5)), []⟩,
    ⟨(some 34), (some (32, false)), .q (.bin .eql (.t 33) (.v (.int .i64 240))), []⟩,
    ⟨(some 35), none, .q (.pick (.t 32) (.v (.bool true)) (.t 34)), []⟩]
def c150_19 : ACode := .ops [
    ⟨(some 6), none, .q (.mv (.v (.int .i64 160))), []⟩]
def c150_20 : ACode := .cond (.t 35) c150_19 .skip
def c150_21 : ACode := .seq c150_18 c150_20
def c150_22 : ACode := .ops [
    ⟨(some 36), none, .q (.mv (.t 5)), []⟩,
    ⟨(some 37), none, .q (.bin .eql (.t 36) (.v (.int .i64 240))), []⟩]
def c150_23 : ACode := .ops [
    ⟨(some 6), none, .q (.mv (.v (.int .i64 144))), []⟩]
def c150_24 : ACode := .cond (.t 37) c150_23 .skip
def c150_25 : ACode := .seq c150_22 c150_24
def c150_26 : ACode := .ops [
    ⟨(some 38), none, .q (.mv (.t 5)), []⟩,
    ⟨(some 39), none, .q (.bin .eql (.t 38) (.v (.int .i64 237))), []⟩]
def c150_27 : ACode := .ops [
    ⟨(some 7), none, .q (.mv (.v (.int .i64 159))), []⟩]
def c150_28 : ACode := .cond (.t 39) c150_27 .skip
def c150_29 : ACode := .seq c150_26 c150_28
def c150_30 : ACode := .ops [
    ⟨(some 40), none, .q (.mv (.t 5)), []⟩,
    ⟨(some 41), none, .q (.bin .eql (.t 40) (.v (.int .i64 244))), []⟩]
def c150_31 : ACode := .ops [
    ⟨(some 7), none, .q (.mv (.v (.int .i64 143))), []⟩]
def c150_32 : ACode := .cond (.t 41) c150_31 .skip
def c150_33 : ACode := .seq c150_30 c150_32
def c150_34 : ACode := .ops [
    ⟨(some 42), none, .q (.mv (.t 5)), []⟩,
    ⟨(some 43), none, .q (.bin .geq (.t 42) (.v (.int .i64 224))), []⟩,
    ⟨(some 44), none, .q (.mv (.t 43)), []⟩,
    ⟨(some 45), (some (44, true)), .q (.mv (.t 5)), []⟩,
    ⟨(some 46), (some (44, true)), .q (.bin .leq (.t 45) (.v (.int .i64 239))), []⟩,
    ⟨(some 47), none, .q (.pick (.t 44) (.t 46) (.v (.bool false))), []⟩,
    ⟨(some 48), none, .q (.mv (.t 47)), []⟩,
    ⟨(some 49), (some (48, true)), .q (.mv (.t 0)), []⟩,
    ⟨(some 50), (some (48, true)), .q (.mv (.t 1)), []⟩,
    ⟨(some 51), (some (48, true)), .q (.bin .add (.t 50) (.v (.int .i64 1))), []⟩,
    ⟨(some 52), (some (48, true)), .q (.mv (.t 6)), []⟩,
    ⟨(some 53), (some (48, true)), .q (.mv (.t 7)), []⟩,
    ⟨(some 54), (some (48, true)), .e (.call 164 [(.t 49), (.t 51), (.t 52), (.t 53)]), []⟩,
    ⟨(some 55), none, .q (.pick (.t 48) (.t 54) (.v (.bool false))), []⟩,
    ⟨(some 56), none, .q (.mv (.t 55)), []⟩,
    ⟨(some 57), (some (56, true)), .q (.mv (.t 0)), []⟩,
    ⟨(some 58), (some (56, true)), .q (.mv (.t 1)), []⟩,
    ⟨(some 59), (some (56, true)), .q (.bin .add (.t 58) (.v (.int .i64 2))), []⟩,
    ⟨(some 60), (some (56, true)), .e (.call 164 [(.t 57), (.t 59), (.v (.int .i64 128)), (.v (.int .i64 191))]), []⟩,
    ⟨(some 61), none, .q (.pick (.t 56) (.t 60) (.v (.bool false))), []⟩]
def c150_35 : ACode := .ops [
    ⟨(some 4), none, .q (.mv (.v (.int .i64 3))), []⟩]
def c150_36 : ACode := .seq c150_35 .ret
def c150_37 : ACode := .cond (.t 61) c150_36 .skip
def c150_38 : ACode := .seq c150_34 c150_37
def c150_39 : ACode := .ops [
    ⟨(some 62), none, .q (.mv (.t 5)), []⟩,
    ⟨(some 63), none, .q (.bin .geq (.t 62) (.v (.int .i64 240))), []⟩,
    ⟨(some 64), none, .q (.mv (.t 63)), []⟩,
    ⟨(some 65), (some (64, true)), .q (.mv (.t 5)), []⟩,
    ⟨(some 66), (some (64, true)), .q (.bin .leq (.t 65) (.v (.int .i64 244))), []⟩,
    ⟨(some 67), none, .q (.pick (.t 64) (.t 66) (.v (.bool false))), []⟩,
    ⟨(some 68), none, .q (.mv (.t 67)), []⟩,
    ⟨(some 69), (some (68, true)), .q (.mv (.t 0)), []⟩,
    ⟨(some 70), (some (68, true)), .q (.mv (.t 1)), []⟩,
    ⟨(some 71), (some (68, true)), .q (.bin .add (.t 70) (.v (.int .i64 1))), []⟩,
    ⟨(some 72), (some (68, true)), .q (.mv (.t 6)), []⟩,
    ⟨(some 73), (some (68, true)), .q (.mv (.t 7)), []⟩,
    ⟨(some 74), (some (68, true)), .e (.call 164 [(.t 69), (.t 71), (.t 72), (.t 73)]), []⟩,
    ⟨(some 75), none, .q (.pick (.t 68) (.t 74) (.v (.bool false))), []⟩,
    ⟨(some 76), none, .q (.mv (.t 75)), []⟩,
    ⟨(some 77), (some (76, true)), .q (.mv (.t 0)), []⟩,
    ⟨(some 78), (some (76, true)), .q (.mv (.t 1)), []⟩,
    ⟨(some 79), (some (76, true)), .q (.bin .add (.t 78) (.v (.int .i64 2))), []⟩,
    ⟨(some 80), (some (76, true)), .e (.call 164 [(.t 77), (.t 79), (.v (.int .i64 128)), (.v (.int .i64 191))]), []⟩,
    ⟨(some 81), none, .q (.pick (.t 76) (.t 80) (.v (.bool false))), []⟩,
    ⟨(some 82), none, .q (.mv (.t 81)), []⟩,
    ⟨(some 83), (some (82, true)), .q (.mv (.t 0)), []⟩,
    ⟨(some 84), (some (82, true)), .q (.mv (.t 1)), []⟩,
    ⟨(some 85), (some (82, true)), .q (.bin .add (.t 84) (.v (.int .i64 3))), []⟩,
    ⟨(some 86), (some (82, true)), .e (.call 164 [(.t 83), (.t 85), (.v (.int .i64 128)), (.v (.int .i64 191))]), []⟩,
    ⟨(some 87), none, .q (.pick (.t 82) (.t 86) (.v (.bool false))), []⟩]
def c150_40 : ACode := .ops [
    ⟨(some 4), none, .q (.mv (.v (.int .i64 4))), []⟩]
def c150_41 : ACode := .seq c150_40 .ret
def c150_42 : ACode := .cond (.t 87) c150_41 .skip
def c150_43 : ACode := .seq c150_39 c150_42
def c150_44 : ACode := .ops [
    ⟨(some 4), none, .q (.mv (.v (.int .i64 0))), []⟩]
def c150_45 : ACode := .seq c150_44 .ret
def c150_46 : ACode := .seq c150_43 c150_45
def c150_47 : ACode := .seq c150_38 c150_46
def c150_48 : ACode := .seq c150_33 c150_47
def c150_49 : ACode := .seq c150_29 c150_48
def c150_50 : ACode := .seq c150_25 c150_49
def c150_51 : ACode := .seq c150_21 c150_50
def c150_52 : ACode := .seq c150_17 c150_51
def c150_53 : ACode := .seq c150_16 c150_52
def c150_54 : ACode := .seq c150_11 c150_53
def c150_55 : ACode := .seq c150_6 c150_54
def c150_56 : ACode := .seq c150_5 c150_55
def c150_57 : ACode := .seq c150_0 c150_56
@[go_sem] theorem c150_0_wp : type_of% (wp_of c150_0.eq_1) := wp_of c150_0.eq_1
@[go_sem] theorem c150_1_wp : type_of% (wp_of c150_1.eq_1) := wp_of c150_1.eq_1
@[go_sem] theorem c150_2_wp : type_of% (wp_of c150_2.eq_1) := wp_of c150_2.eq_1
@[go_sem] theorem c150_3_wp : type_of% (wp_of c150_3.eq_1) := wp_of c150_3.eq_1
@[go_sem] theorem c150_4_wp : type_of% (wp_of c150_4.eq_1) := wp_of c150_4.eq_1
@[go_sem] theorem c150_5_wp : type_of% (wp_of c150_5.eq_1) := wp_of c150_5.eq_1
@[go_sem] theorem c150_6_wp : type_of% (wp_of c150_6.eq_1) := wp_of c150_6.eq_1
@[go_sem] theorem c150_7_wp : type_of% (wp_of c150_7.eq_1) := wp_of c150_7.eq_1
@[go_sem] theorem c150_8_wp : type_of% (wp_of c150_8.eq_1) := wp_of c150_8.eq_1
@[go_sem] theorem c150_9_wp : type_of% (wp_of c150_9.eq_1) := wp_of c150_9.eq_1
@[go_sem] theorem c150_10_wp : type_of% (wp_of c150_10.eq_1) := wp_of c150_10.eq_1
@[go_sem] theorem c150_11_wp : type_of% (wp_of c150_11.eq_1) := wp_of c150_11.eq_1
@[go_sem] theorem c150_12_wp : type_of% (wp_of c150_12.eq_1) := wp_of c150_12.eq_1
@[go_sem] theorem c150_13_wp : type_of% (wp_of c150_13.eq_1) := wp_of c150_13.eq_1
@[go_sem] theorem c150_14_wp : type_of% (wp_of c150_14.eq_1) := wp_of c150_14.eq_1
@[go_sem] theorem c150_15_wp : type_of% (wp_of c150_15.eq_1) := wp_of c150_15.eq_1
@[go_sem] theorem c150_16_wp : type_of% (wp_of c150_16.eq_1) := wp_of c150_16.eq_1
@[go_sem] theorem c150_17_wp : type_of% (wp_of c150_17.eq_1) := wp_of c150_17.eq_1
@[go_sem] theorem c150_18_wp : type_of% (wp_of c150_18.eq_1) := wp_of c150_18.eq_1
@[go_sem] theorem c150_19_wp : type_of% (wp_of c150_19.eq_1) := wp_of c150_19.eq_1
@[go_sem] theorem c150_20_wp : type_of% (wp_of c150_20.eq_1) := wp_of c150_20.eq_1
@[go_sem] theorem c150_21_wp : type_of% (wp_of c150_21.eq_1) := wp_of c150_21.eq_1
@[go_sem] theorem c150_22_wp : type_of% (wp_of c150_22.eq_1) := wp_of c150_22.eq_1
@[go_sem] theorem c150_23_wp : type_of% (wp_of c150_23.eq_1) := wp_of c150_23.eq_1
@[go_sem] theorem c150_24_wp : type_of% (wp_of c150_24.eq_1) := wp_of c150_24.eq_1
@[go_sem] theorem c150_25_wp : type_of% (wp_of c150_25.eq_1) := wp_of c150_25.eq_1
@[go_sem] theorem c150_26_wp : type_of% (wp_of c150_26.eq_1) := wp_of c150_26.eq_1
@[go_sem] theorem c150_27_wp : type_of% (wp_of c150_27.eq_1) := wp_of c150_27.eq_1
@[go_sem] theorem c150_28_wp : type_of% (wp_of c150_28.eq_1) := wp_of c150_28.eq_1
@[go_sem] theorem c150_29_wp : type_of% (wp_of c150_29.eq_1) := wp_of c150_29.eq_1
@[go_sem] theorem c150_30_wp : type_of% (wp_of c150_30.eq_1) := wp_of c150_30.eq_1
@[go_sem] theorem c150_31_wp : type_of% (wp_of c150_31.eq_1) := wp_of c150_31.eq_1
@[go_sem] theorem c150_32_wp : type_of% (wp_of c150_32.eq_1) := wp_of c150_32.eq_1
@[go_sem] theorem c150_33_wp : type_of% (wp_of c150_33.eq_1) := wp_of c150_33.eq_1
@[go_sem] theorem c150_34_wp : type_of% (wp_of c150_34.eq_1) := wp_of c150_34.eq_1
@[go_sem] theorem c150_35_wp : type_of% (wp_of c150_35.eq_1) := wp_of c150_35.eq_1
@[go_sem] theorem c150_36_wp : type_of% (wp_of c150_36.eq_1) := wp_of c150_36.eq_1
@[go_sem] theorem c150_37_wp : type_of% (wp_of c150_37.eq_1) := wp_of c150_37.eq_1
@[go_sem] theorem c150_38_wp : type_of% (wp_of c150_38.eq_1) := wp_of c150_38.eq_1
@[go_sem] theorem c150_39_wp : type_of% (wp_of c150_39.eq_1) := wp_of c150_39.eq_1
@[go_sem] theorem c150_40_wp : type_of% (wp_of c150_40.eq_1) := wp_of c150_40.eq_1
@[go_sem] theorem c150_41_wp : type_of% (wp_of c150_41.eq_1) := wp_of c150_41.eq_1
@[go_sem] theorem c150_42_wp : type_of% (wp_of c150_42.eq_1) := wp_of c150_42.eq_1
@[go_sem] theorem c150_43_wp : type_of% (wp_of c150_43.eq_1) := wp_of c150_43.eq_1
@[go_sem] theorem c150_44_wp : type_of% (wp_of c150_44.eq_1) := wp_of c150_44.eq_1
@[go_sem] theorem c150_45_wp : type_of% (wp_of c150_45.eq_1) := wp_of c150_45.eq_1
@[go_sem] theorem c150_46_wp : type_of% (wp_of c150_46.eq_1) := wp_of c150_46.eq_1
@[go_sem] theorem c150_47_wp : type_of% (wp_of c150_47.eq_1) := wp_of c150_47.eq_1
@[go_sem] theorem c150_48_wp : type_of% (wp_of c150_48.eq_1) := wp_of c150_48.eq_1
@[go_sem] theorem c150_49_wp : type_of% (wp_of c150_49.eq_1) := wp_of c150_49.eq_1
@[go_sem] theorem c150_50_wp : type_of% (wp_of c150_50.eq_1) := wp_of c150_50.eq_1
@[go_sem] theorem c150_51_wp : type_of% (wp_of c150_51.eq_1) := wp_of c150_51.eq_1
@[go_sem] theorem c150_52_wp : type_of% (wp_of c150_52.eq_1) := wp_of c150_52.eq_1
@[go_sem] theorem c150_53_wp : type_of% (wp_of c150_53.eq_1) := wp_of c150_53.eq_1
@[go_sem] theorem c150_54_wp : type_of% (wp_of c150_54.eq_1) := wp_of c150_54.eq_1
@[go_sem] theorem c150_55_wp : type_of% (wp_of c150_55.eq_1) := wp_of c150_55.eq_1
@[go_sem] theorem c150_56_wp : type_of% (wp_of c150_56.eq_1) := wp_of c150_56.eq_1
@[go_sem] theorem c150_57_wp : type_of% (wp_of c150_57.eq_1) := wp_of c150_57.eq_1
def c150 : AFn := ⟨88, [.t 4], c150_57⟩
set_option maxRecDepth 100000 in
theorem c150_ok : compF Tryz.prog Tryz.f150 = some c150 := by kernel_rfl
theorem a150 {args : List AV} {σ : ASt} {R : AV → ASt → Prop} (hl : args.length ≤ 88) (h : c150_57.wp Tryz.prog (RetQ [.t 4] R) (init args) σ) : ACalls Tryz.prog 150 args σ R := acalls_of Tryz.func150 c150_ok hl h

/-! 164: tabular/tabularref11.more -/
def c164_0 : ACode := .ops [
    ⟨(some 8), none, .q (.mv (.v (.bool false))), []⟩]
def c164_1 : ACode := .ops [
    ⟨(some 9), none, .q (.mv (.t 1)), []⟩,
    ⟨(some 10), none, .q (.mv (.t 0)), []⟩,
    ⟨(some 11), none, .q (.lenS (.t 10)), []⟩,
    ⟨(some 12), none, .q (.bin .lss (.t 9) (.t 11)), []⟩,
    ⟨(some 13), none, .q (.mv (.t 12)), []⟩,
    ⟨(some 14), (some (13, true)), .q (.mv (.t 0)), []⟩,
    ⟨(some 15), (some (13, true)), .q (.mv (.t 1)), []⟩,
    ⟨(some 16), (some (13, true)), .q (.idx (.t 14) (.t 15)), []⟩,
    ⟨(some 17), (some (13, true)), .q (.conv .i64 (.t 16)), []⟩,
    ⟨(some 18), (some (13, true)), .q (.mv (.t 2)), []⟩,
    ⟨(some 19), (some (13, true)), .q (.bin .geq (.t 17) (.t 18)), []⟩,
    ⟨(some 20), none, .q (.pick (.t 13) (.t 19) (.v (.bool false))), []⟩,
    ⟨(some 21), none, .q (.mv (.t 20)), []⟩,
    ⟨(some 22), (some (21, true)), .q (.mv (.t 0)), []⟩,
    ⟨(some 23), (some (21, true)), .q (.mv (.t 1)), []⟩,
    ⟨(some 24), (some (21, true)), .q (.idx (.t 22) (.t 23)), []⟩,
    ⟨(some 25), (some (21, true)), .q (.conv .i64 (.t 24)), []⟩,
    ⟨(some 26), (some (21, true)), .q (.mv (.t 3)), []⟩,
    ⟨(some 27), (some (21, true)), .q (.bin .leq (.t 25) (.t 26)), []⟩,
    ⟨(some 28), none, .q (.pick (.t 21) (.t 27) (.v (.bool false))), []⟩,
    ⟨(some 8), none, .q (.mv (.t 28)), []⟩]
def c164_2 : ACode := .seq c164_1 .ret
def c164_3 : ACode := .seq c164_0 c164_2
@[go_sem] theorem c164_0_wp : type_of% (wp_of c164_0.eq_1) := wp_of c164_0.eq_1
@[go_sem] theorem c164_1_wp : type_of% (wp_of c164_1.eq_1) := wp_of c164_1.eq_1
@[go_sem] theorem c164_2_wp : type_of% (wp_of c164_2.eq_1) := wp_of c164_2.eq_1
@[go_sem] theorem c164_3_wp : type_of% (wp_of c164_3.eq_1) := wp_of c164_3.eq_1
def c164 : AFn := ⟨29, [.t 8], c164_3⟩
set_option maxRecDepth 100000 in
theorem c164_ok : compF Tryz.prog Tryz.f164 = some c164 := by kernel_rfl
theorem a164 {args : List AV} {σ : ASt} {R : AV → ASt → Prop} (hl : args.length ≤ 29) (h : c164_3.wp Tryz.prog (RetQ [.t 8] R) (init args) σ) : ACalls Tryz.prog 164 args σ R := acalls_of Tryz.func164 c164_ok hl h

end Go.A
