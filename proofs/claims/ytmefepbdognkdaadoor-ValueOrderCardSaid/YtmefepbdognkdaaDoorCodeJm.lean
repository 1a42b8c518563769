/- The functions, compiled: by program (wip/gencode.py). -/
import Derived.Test.YtmefepbdognkdaaDoorBk
import Derived.Test.YtmefepbdognkdaaDoorProg
import Derived.KernelRfl
namespace Go.A
open Go.Proofs

/-! 76: tabular/tabularref15.Num -/
def c76_0 : ACode := .ops [
    ⟨(some 2), none, .e (.alloc [(.int .i64 0), (.int .i64 0), (.str [])]), []⟩]
def c76_1 : ACode := .ops [
    ⟨(some 3), none, .q (.mv (.t 0)), []⟩,
    ⟨(some 4), none, .q (.build [(.int .i64 0), (.int .i64 0), (.str [])] [(0, 1, (.v (.int .i64 1))), (1, 1, (.t 3))]), []⟩,
    ⟨none, none, .e (.store 3 (.t 2) (.t 4)), []⟩]
def c76_2 : ACode := .seq c76_1 .ret
def c76_3 : ACode := .seq c76_0 c76_2
@[go_sem] theorem c76_0_wp : type_of% (wp_of c76_0.eq_1) := wp_of c76_0.eq_1
@[go_sem] theorem c76_1_wp : type_of% (wp_of c76_1.eq_1) := wp_of c76_1.eq_1
@[go_sem] theorem c76_2_wp : type_of% (wp_of c76_2.eq_1) := wp_of c76_2.eq_1
@[go_sem] theorem c76_3_wp : type_of% (wp_of c76_3.eq_1) := wp_of c76_3.eq_1
def c76 : AFn := ⟨5, [.c 2 (some 3)], c76_3⟩
set_option maxRecDepth 100000 in
theorem c76_ok : compF Tryd.prog Tryd.f76 = some c76 := by kernel_rfl
theorem a76 {args : List AV} {σ : ASt} {R : AV → ASt → Prop} (hl : args.length ≤ 5) (h : c76_3.wp Tryd.prog (RetQ [.c 2 (some 3)] R) (init args) σ) : ACalls Tryd.prog 76 args σ R := acalls_of Tryd.func76 c76_ok hl h

/-! 78: tabular/tabularref15.Text -/
def c78_0 : ACode := .ops [
    ⟨(some 2), none, .e (.alloc [(.int .i64 0), (.int .i64 0), (.str [])]), []⟩]
def c78_1 : ACode := .ops [
    ⟨(some 3), none, .q (.mv (.t 0)), []⟩,
    ⟨(some 4), none, .q (.build [(.int .i64 0), (.int .i64 0), (.str [])] [(0, 1, (.v (.int .i64 2))), (2, 1, (.t 3))]), []⟩,
    ⟨none, none, .e (.store 3 (.t 2) (.t 4)), []⟩]
def c78_2 : ACode := .seq c78_1 .ret
def c78_3 : ACode := .seq c78_0 c78_2
@[go_sem] theorem c78_0_wp : type_of% (wp_of c78_0.eq_1) := wp_of c78_0.eq_1
@[go_sem] theorem c78_1_wp : type_of% (wp_of c78_1.eq_1) := wp_of c78_1.eq_1
@[go_sem] theorem c78_2_wp : type_of% (wp_of c78_2.eq_1) := wp_of c78_2.eq_1
@[go_sem] theorem c78_3_wp : type_of% (wp_of c78_3.eq_1) := wp_of c78_3.eq_1
def c78 : AFn := ⟨5, [.c 2 (some 3)], c78_3⟩
set_option maxRecDepth 100000 in
theorem c78_ok : compF Tryd.prog Tryd.f78 = some c78 := by kernel_rfl
theorem a78 {args : List AV} {σ : ASt} {R : AV → ASt → Prop} (hl : args.length ≤ 5) (h : c78_3.wp Tryd.prog (RetQ [.c 2 (some 3)] R) (init args) σ) : ACalls Tryd.prog 78 args σ R := acalls_of Tryd.func78 c78_ok hl h

/-! 79: tabular/tabularref15.Bool -/
def c79_0 : ACode := .ops [
    ⟨(some 2), none, .e (.alloc [(.int .i64 0), (.int .i64 0), (.str [])]), []⟩]
def c79_1 : ACode := .ops [
    ⟨(some 3), none, .q (.mv (.t 0)), []⟩]
def c79_2 : ACode := .ops [
    ⟨(some 4), none, .q (.build [(.int .i64 0), (.int .i64 0), (.str [])] [(0, 1, (.v (.int .i64 3))), (1, 1, (.v (.int .i64 1)))]), []⟩,
    ⟨none, none, .e (.store 3 (.t 2) (.t 4)), []⟩]
def c79_3 : ACode := .seq c79_2 .ret
def c79_4 : ACode := .cond (.t 3) c79_3 .skip
def c79_5 : ACode := .seq c79_1 c79_4
def c79_6 : ACode := .ops [
    ⟨(some 5), none, .q (.build [(.int .i64 0), (.int .i64 0), (.str [])] [(0, 1, (.v (.int .i64 3)))]), []⟩,
    ⟨none, none, .e (.store 3 (.t 2) (.t 5)), []⟩]
def c79_7 : ACode := .seq c79_6 .ret
def c79_8 : ACode := .seq c79_5 c79_7
def c79_9 : ACode := .seq c79_0 c79_8
@[go_sem] theorem c79_0_wp : type_of% (wp_of c79_0.eq_1) := wp_of c79_0.eq_1
@[go_sem] theorem c79_1_wp : type_of% (wp_of c79_1.eq_1) := wp_of c79_1.eq_1
@[go_sem] theorem c79_2_wp : type_of% (wp_of c79_2.eq_1) := wp_of c79_2.eq_1
@[go_sem] theorem c79_3_wp : type_of% (wp_of c79_3.eq_1) := wp_of c79_3.eq_1
@[go_sem] theorem c79_4_wp : type_of% (wp_of c79_4.eq_1) := wp_of c79_4.eq_1
@[go_sem] theorem c79_5_wp : type_of% (wp_of c79_5.eq_1) := wp_of c79_5.eq_1
@[go_sem] theorem c79_6_wp : type_of% (wp_of c79_6.eq_1) := wp_of c79_6.eq_1
@[go_sem] theorem c79_7_wp : type_of% (wp_of c79_7.eq_1) := wp_of c79_7.eq_1
@[go_sem] theorem c79_8_wp : type_of% (wp_of c79_8.eq_1) := wp_of c79_8.eq_1
@[go_sem] theorem c79_9_wp : type_of% (wp_of c79_9.eq_1) := wp_of c79_9.eq_1
def c79 : AFn := ⟨6, [.c 2 (some 3)], c79_9⟩
set_option maxRecDepth 100000 in
theorem c79_ok : compF Tryd.prog Tryd.f79 = some c79 := by kernel_rfl
theorem a79 {args : List AV} {σ : ASt} {R : AV → ASt → Prop} (hl : args.length ≤ 6) (h : c79_9.wp Tryd.prog (RetQ [.c 2 (some 3)] R) (init args) σ) : ACalls Tryd.prog 79 args σ R := acalls_of Tryd.func79 c79_ok hl h

/-! 80: tabular/tabularref15.Fail -/
def c80_0 : ACode := .ops [
    ⟨(some 2), none, .e (.alloc [(.int .i64 0), (.int .i64 0), (.str [])]), []⟩]
def c80_1 : ACode := .ops [
    ⟨(some 3), none, .q (.mv (.t 0)), []⟩,
    ⟨(some 4), none, .q (.build [(.int .i64 0), (.int .i64 0), (.str [])] [(0, 1, (.v (.int .i64 4))), (1, 1, (.t 3))]), []⟩,
    ⟨none, none, .e (.store 3 (.t 2) (.t 4)), []⟩]
def c80_2 : ACode := .seq c80_1 .ret
def c80_3 : ACode := .seq c80_0 c80_2
@[go_sem] theorem c80_0_wp : type_of% (wp_of c80_0.eq_1) := wp_of c80_0.eq_1
@[go_sem] theorem c80_1_wp : type_of% (wp_of c80_1.eq_1) := wp_of c80_1.eq_1
@[go_sem] theorem c80_2_wp : type_of% (wp_of c80_2.eq_1) := wp_of c80_2.eq_1
@[go_sem] theorem c80_3_wp : type_of% (wp_of c80_3.eq_1) := wp_of c80_3.eq_1
def c80 : AFn := ⟨5, [.c 2 (some 3)], c80_3⟩
set_option maxRecDepth 100000 in
theorem c80_ok : compF Tryd.prog Tryd.f80 = some c80 := by kernel_rfl
theorem a80 {args : List AV} {σ : ASt} {R : AV → ASt → Prop} (hl : args.length ≤ 5) (h : c80_3.wp Tryd.prog (RetQ [.c 2 (some 3)] R) (init args) σ) : ACalls Tryd.prog 80 args σ R := acalls_of Tryd.func80 c80_ok hl h

/-! 96: tabular/tabularref11.Sign -/
def c96_0 : ACode := .ops [
    ⟨(some 4), none, .q (.mv (.v (.int .i64 0))), []⟩]
def c96_1 : ACode := .ops [
    ⟨(some 8), none, .q (.mv (.t 1)), []⟩,
    ⟨(some 9), none, .q (.mv (.t 0)), []⟩,
    ⟨(some 10), none, .q (.lenS (.t 9)), []⟩,
    ⟨(some 11), none, .q (.bin .geq (.t 8) (.t 10)), []⟩]
def c96_2 : ACode := .ops [
    ⟨(some 4), none, .q (.mv (.v (.int .i64 0))), []⟩]
def c96_3 : ACode := .seq c96_2 .ret
def c96_4 : ACode := .cond (.t 11) c96_3 .skip
def c96_5 : ACode := .seq c96_1 c96_4
def c96_6 : ACode := .ops [
    ⟨(some 12), none, .q (.mv (.t 0)), []⟩,
    ⟨(some 13), none, .q (.mv (.t 1)), []⟩,
    ⟨(some 14), none, .q (.idx (.t 12) (.t 13)), []⟩,
    ⟨(some 15), none, .q (.conv .i64 (.t 14)), []⟩,
    ⟨(some 5), none, .q (.mv (.t 15)), []⟩]
def c96_7 : ACode := .ops [
    ⟨(some 16), none, .q (.mv (.t 5)), []⟩,
    ⟨(some 17), none, .q (.bin .lss (.t 16) (.v (.int .i64 128))), []⟩]
def c96_8 : ACode := .ops [
    ⟨(some 4), none, .q (.mv (.v (.int .i64 1))), []⟩]
def c96_9 : ACode := .seq c96_8 .ret
def c96_10 : ACode := .cond (.t 17) c96_9 .skip
def c96_11 : ACode := .seq c96_7 c96_10
def c96_12 : ACode := .ops [
    ⟨(some 18), none, .q (.mv (.t 5)), []⟩,
    ⟨(some 19), none, .q (.bin .geq (.t 18) (.v (.int .i64 194))), []⟩,
    ⟨(some 20), none, .q (.mv (.t 19)), []⟩,
    ⟨(some 21), (some (20, true)), .q (.mv (.t 5)), []⟩,
    ⟨(some 22), (some (20, true)), .q (.bin .leq (.t 21) (.v (.int .i64 223))), []⟩,
    ⟨(some 23), none, .q (.pick (.t 20) (.t 22) (.v (.bool false))), []⟩,
    ⟨(some 24), none, .q (.mv (.t 23)), []⟩,
    ⟨(some 25), (some (24, true)), .q (.mv (.t 0)), []⟩,
    ⟨(some 26), (some (24, true)), .q (.mv (.t 1)), []⟩,
    ⟨(some 27), (some (24, true)), .q (.bin .add (.t 26) (.v (.int .i64 1))), []⟩,
    ⟨(some 28), (some (24, true)), .e (.call 106 [(.t 25), (.t 27), (.v (.int .i64 128)), (.v (.int .i64 191))]), []⟩,
    ⟨(some 29), none, .q (.pick (.t 24) (.t 28) (.v (.bool false))), []⟩]
def c96_13 : ACode := .ops [
    ⟨(some 4), none, .q (.mv (.v (.int .i64 2))), []⟩]
def c96_14 : ACode := .seq c96_13 .ret
def c96_15 : ACode := .cond (.t 29) c96_14 .skip
def c96_16 : ACode := .seq c96_12 c96_15
def c96_17 : ACode := .ops [
    ⟨(some 6), none, .q (.mv (.v (.int .i64 128))), []⟩,
    ⟨(some 7), none, .q (.mv (.v (.int .i64 191))), []⟩]
def c96_18 : ACode := .ops [
    ⟨(some 30), none, .q (.mv (.t 5)), []⟩,
    ⟨(some 31), none, .q (.bin .eql (.t 30) (.v (.int .i64 224))), []⟩,
    ⟨(some 32), none, .q (.mv (.t 31)), []⟩,
    ⟨(some 33), (some (32, false)), .q (.mv (.t 5)), []⟩,
    ⟨(some 34), (some (32, false)), .q (.bin .eql (.t 33) (.v (.int .i64 240))), []⟩,
    ⟨(some 35), none, .q (.pick (.t 32) (.v (.bool true)) (.t 34)), []⟩]
def c96_19 : ACode := .ops [
    ⟨(some 6), none, .q (.mv (.v (.int .i64 160))), []⟩]
def c96_20 : ACode := .cond (.t 35) c96_19 .skip
def c96_21 : ACode := .seq c96_18 c96_20
def c96_22 : ACode := .ops [
    ⟨(some 36), none, .q (.mv (.t 5)), []⟩,
    ⟨(some 37), none, .q (.bin .eql (.t 36) (.v (.int .i64 240))), []⟩]
def c96_23 : ACode := .ops [
    ⟨(some 6), none, .q (.mv (.v (.int .i64 144))), []⟩]
def c96_24 : ACode := .cond (.t 37) c96_23 .skip
def c96_25 : ACode := .seq c96_22 c96_24
def c96_26 : ACode := .ops [
    ⟨(some 38), none, .q (.mv (.t 5)), []⟩,
    ⟨(some 39), none, .q (.bin .eql (.t 38) (.v (.int .i64 237))), []⟩]
def c96_27 : ACode := .ops [
    ⟨(some 7), none, .q (.mv (.v (.int .i64 159))), []⟩]
def c96_28 : ACode := .cond (.t 39) c96_27 .skip
def c96_29 : ACode := .seq c96_26 c96_28
def c96_30 : ACode := .ops [
    ⟨(some 40), none, .q (.mv (.t 5)), []⟩,
    ⟨(some 41), none, .q (.bin .eql (.t 40) (.v (.int .i64 244))), []⟩]
def c96_31 : ACode := .ops [
    ⟨(some 7), none, .q (.mv (.v (.int .i64 143))), []⟩]
def c96_32 : ACode := .cond (.t 41) c96_31 .skip
def c96_33 : ACode := .seq c96_30 c96_32
def c96_34 : ACode := .ops [
    ⟨(some 42), none, .q (.mv (.t 5)), []⟩,
    ⟨(some 43), none, .q (.bin .geq (.t 42) (.v (.int .i64 224))), []⟩,
    ⟨(some 44), none, .q (.mv (.t 43)), []⟩,
    ⟨(some 45), (some (44, true)), .q (.mv (.t 5)), []⟩,
    ⟨(some 46), (some (44, true)), .q (.bin .leq (.t 45) (.v (.int .i64 239))), []⟩,
    ⟨(some 47), none, .q (.pick (.t 44) (.t 46) (.v (.bool false))), []⟩,
    ⟨(some 48), none, .q (.mv (.t 47)), []⟩,
    ⟨(some 49), (some (48, true)), .q (.mv (.t 0)), []⟩,
    ⟨(some 50), (some (48, true)), .q (.mv (.t 1)), []⟩,
    ⟨(some 51), (some (48, true)), .q (.bin .add (.t 50) (.v (.int .i64 1))), []⟩,
    ⟨(some 52), (some (48, true)), .q (.mv (.t 6)), []⟩,
    ⟨(some 53), (some (48, true)), .q (.mv (.t 7)), []⟩,
    ⟨(some 54), (some (48, true)), .e (.call 106 [(.t 49), (.t 51), (.t 52), (.t 53)]), []⟩,
    ⟨(some 55), none, .q (.pick (.t 48) (.t 54) (.v (.bool false))), []⟩,
    ⟨(some 56), none, .q (.mv (.t 55)), []⟩,
    ⟨(some 57), (some (56, true)), .q (.mv (.t 0)), []⟩,
    ⟨(some 58), (some (56, true)), .q (.mv (.t 1)), []⟩,
    ⟨(some 59), (some (56, true)), .q (.bin .add (.t 58) (.v (.int .i64 2))), []⟩,
    ⟨(some 60), (some (56, true)), .e (.call 106 [(.t 57), (.t 59), (.v (.int .i64 128)), (.v (.int .i64 191))]), []⟩,
    ⟨(some 61), none, .q (.pick (.t 56) (.t 60) (.v (.bool false))), []⟩]
def c96_35 : ACode := .ops [
    ⟨(some 4), none, .q (.mv (.v (.int .i64 3))), []⟩]
def c96_36 : ACode := .seq c96_35 .ret
def c96_37 : ACode := .cond (.t 61) c96_36 .skip
def c96_38 : ACode := .seq c96_34 c96_37
def c96_39 : ACode := .ops [
    ⟨(some 62), none, .q (.mv (.t 5)), []⟩,
    ⟨(some 63), none, .q (.bin .geq (.t 62) (.v (.int .i64 240))), []⟩,
    ⟨(some 64), none, .q (.mv (.t 63)), []⟩,
    ⟨(some 65), (some (64, true)), .q (.mv (.t 5)), []⟩,
    ⟨(some 66), (some (64, true)), .q (.bin .leq (.t 65) (.v (.int .i64 244))), []⟩,
    ⟨(some 67), none, .q (.pick (.t 64) (.t 66) (.v (.bool false))), []⟩,
    ⟨(some 68), none, .q (.mv (.t 67)), []⟩,
    ⟨(some 69), (some (68, true)), .q (.mv (.t 0)), []⟩,
    ⟨(some 70), (some (68, true)), .q (.mv (.t 1)), []⟩,
    ⟨(some 71), (some (68, true)), .q (.bin .add (.t 70) (.v (.int .i64 1))), []⟩,
    ⟨(some 72), (some (68, true)), .q (.mv (.t 6)), []⟩,
    ⟨(some 73), (some (68, true)), .q (.mv (.t 7)), []⟩,
    ⟨(some 74), (some (68, true)), .e (.call 106 [(.t 69), (.t 71), (.t 72), (.t 73)]), []⟩,
    ⟨(some 75), none, .q (.pick (.t 68) (.t 74) (.v (.bool false))), []⟩,
    ⟨(some 76), none, .q (.mv (.t 75)), []⟩,
    ⟨(some 77), (some (76, true)), .q (.mv (.t 0)), []⟩,
    ⟨(some 78), (some (76, true)), .q (.mv (.t 1)), []⟩,
    ⟨(some 79), (some (76, true)), .q (.bin .add (.t 78) (.v (.int .i64 2))), []⟩,
    ⟨(some 80), (some (76, true)), .e (.call 106 [(.t 77), (.t 79), (.v (.int .i64 128)), (.v (.int .i64 191))]), []⟩,
    ⟨(some 81), none, .q (.pick (.t 76) (.t 80) (.v (.bool false))), []⟩,
    ⟨(some 82), none, .q (.mv (.t 81)), []⟩,
    ⟨(some 83), (some (82, true)), .q (.mv (.t 0)), []⟩,
    ⟨(some 84), (some (82, true)), .q (.mv (.t 1)), []⟩,
    ⟨(some 85), (some (82, true)), .q (.bin .add (.t 84) (.v (.int .i64 3))), []⟩,
    ⟨(some 86), (some (82, true)), .e (.call 106 [(.t 83), (.t 85), (.v (.int .i64 128)), (.v (.int .i64 191))]), []⟩,
    ⟨(some 87), none, .q (.pick (.t 82) (.t 86) (.v (.bool false))), []⟩]
def c96_40 : ACode := .ops [
    ⟨(some 4), none, .q (.mv (.v (.int .i64 4))), []⟩]
def c96_41 : ACode := .seq c96_40 .ret
def c96_42 : ACode := .cond (.t 87) c96_41 .skip
def c96_43 : ACode := .seq c96_39 c96_42
def c96_44 : ACode := .ops [
    ⟨(some 4), none, .q (.mv (.v (.int .i64 0))), []⟩]
def c96_45 : ACode := .seq c96_44 .ret
def c96_46 : ACode := .seq c96_43 c96_45
def c96_47 : ACode := .seq c96_38 c96_46
def c96_48 : ACode := .seq c96_33 c96_47
def c96_49 : ACode := .seq c96_29 c96_48
def c96_50 : ACode := .seq c96_25 c96_49
def c96_51 : ACode := .seq c96_21 c96_50
def c96_52 : ACode := .seq c96_17 c96_51
def c96_53 : ACode := .seq c96_16 c96_52
def c96_54 : ACode := .seq c96_11 c96_53
def c96_55 : ACode := .seq c96_6 c96_54
def c96_56 : ACode := .seq c96_5 c96_55
def c96_57 : ACode := .seq c96_0 c96_56
@[go_sem] theorem c96_0_wp : type_of% (wp_of c96_0.eq_1) := wp_of c96_0.eq_1
@[go_sem] theorem c96_1_wp : type_of% (wp_of c96_1.eq_1) := wp_of c96_1.eq_1
@[go_sem] theorem c96_2_wp : type_of% (wp_of c96_2.eq_1) := wp_of c96_2.eq_1
@[go_sem] theorem c96_3_wp : type_of% (wp_of c96_3.eq_1) := wp_of c96_3.eq_1
@[go_sem] theorem c96_4_wp : type_of% (wp_of c96_4.eq_1) := wp_of c96_4.eq_1
@[go_sem] theorem c96_5_wp : type_of% (wp_of c96_5.eq_1) := wp_of c96_5.eq_1
@[go_sem] theorem c96_6_wp : type_of% (wp_of c96_6.eq_1) := wp_of c96_6.eq_1
@[go_sem] theorem c96_7_wp : type_of% (wp_of c96_7.eq_1) := wp_of c96_7.eq_1
@[go_sem] theorem c96_8_wp : type_of% (wp_of c96_8.eq_1) := wp_of c96_8.eq_1
@[go_sem] theorem c96_9_wp : type_of% (wp_of c96_9.eq_1) := wp_of c96_9.eq_1
@[go_sem] theorem c96_10_wp : type_of% (wp_of c96_10.eq_1) := wp_of c96_10.eq_1
@[go_sem] theorem c96_11_wp : type_of% (wp_of c96_11.eq_1) := wp_of c96_11.eq_1
@[go_sem] theorem c96_12_wp : type_of% (wp_of c96_12.eq_1) := wp_of c96_12.eq_1
@[go_sem] theorem c96_13_wp : type_of% (wp_of c96_13.eq_1) := wp_of c96_13.eq_1
@[go_sem] theorem c96_14_wp : type_of% (wp_of c96_14.eq_1) := wp_of c96_14.eq_1
@[go_sem] theorem c96_15_wp : type_of% (wp_of c96_15.eq_1) := wp_of c96_15.eq_1
@[go_sem] theorem c96_16_wp : type_of% (wp_of c96_16.eq_1) := wp_of c96_16.eq_1
@[go_sem] theorem c96_17_wp : type_of% (wp_of c96_17.eq_1) := wp_of c96_17.eq_1
@[go_sem] theorem c96_18_wp : type_of% (wp_of c96_18.eq_1) := wp_of c96_18.eq_1
@[go_sem] theorem c96_19_wp : type_of% (wp_of c96_19.eq_1) := wp_of c96_19.eq_1
@[go_sem] theorem c96_20_wp : type_of% (wp_of c96_20.eq_1) := wp_of c96_20.eq_1
@[go_sem] theorem c96_21_wp : type_of% (wp_of c96_21.eq_1) := wp_of c96_21.eq_1
@[go_sem] theorem c96_22_wp : type_of% (wp_of c96_22.eq_1) := wp_of c96_22.eq_1
@[go_sem] theorem c96_23_wp : type_of% (wp_of c96_23.eq_1) := wp_of c96_23.eq_1
@[go_sem] theorem c96_24_wp : type_of% (wp_of c96_24.eq_1) := wp_of c96_24.eq_1
@[go_sem] theorem c96_25_wp : type_of% (wp_of c96_25.eq_1) := wp_of c96_25.eq_1
@[go_sem] theorem c96_26_wp : type_of% (wp_of c96_26.eq_1) := wp_of c96_26.eq_1
@[go_sem] theorem c96_27_wp : type_of% (wp_of c96_27.eq_1) := wp_of c96_27.eq_1
@[go_sem] theorem c96_28_wp : type_of% (wp_of c96_28.eq_1) := wp_of c96_28.eq_1
@[go_sem] theorem c96_29_wp : type_of% (wp_of c96_29.eq_1) := wp_of c96_29.eq_1
@[go_sem] theorem c96_30_wp : type_of% (wp_of c96_30.eq_1) := wp_of c96_30.eq_1
@[go_sem] theorem c96_31_wp : type_of% (wp_of c96_31.eq_1) := wp_of c96_31.eq_1
@[go_sem] theorem c96_32_wp : type_of% (wp_of c96_32.eq_1) := wp_of c96_32.eq_1
@[go_sem] theorem c96_33_wp : type_of% (wp_of c96_33.eq_1) := wp_of c96_33.eq_1
@[go_sem] theorem c96_34_wp : type_of% (wp_of c96_34.eq_1) := wp_of c96_34.eq_1
@[go_sem] theorem c96_35_wp : type_of% (wp_of c96_35.eq_1) := wp_of c96_35.eq_1
@[go_sem] theorem c96_36_wp : type_of% (wp_of c96_36.eq_1) := wp_of c96_36.eq_1
@[go_sem] theorem c96_37_wp : type_of% (wp_of c96_37.eq_1) := wp_of c96_37.eq_1
@[go_sem] theorem c96_38_wp : type_of% (wp_of c96_38.eq_1) := wp_of c96_38.eq_1
@[go_sem] theorem c96_39_wp : type_of% (wp_of c96_39.eq_1) := wp_of c96_39.eq_1
@[go_sem] theorem c96_40_wp : type_of% (wp_of c96_40.eq_1) := wp_of c96_40.eq_1
@[go_sem] theorem c96_41_wp : type_of% (wp_of c96_41.eq_1) := wp_of c96_41.eq_1
@[go_sem] theorem c96_42_wp : type_of% (wp_of c96_42.eq_1) := wp_of c96_42.eq_1
@[go_sem] theorem c96_43_wp : type_of% (wp_of c96_43.eq_1) := wp_of c96_43.eq_1
@[go_sem] theorem c96_44_wp : type_of% (wp_of c96_44.eq_1) := wp_of c96_44.eq_1
@[go_sem] theorem c96_45_wp : type_of% (wp_of c96_45.eq_1) := wp_of c96_45.eq_1
@[go_sem] theorem c96_46_wp : type_of% (wp_of c96_46.eq_1) := wp_of c96_46.eq_1
@[go_sem] theorem c96_47_wp : type_of% (wp_of c96_47.eq_1) := wp_of c96_47.eq_1
@[go_sem] theorem c96_48_wp : type_of% (wp_of c96_48.eq_1) := wp_of c96_48.eq_1
@[go_sem] theorem c96_49_wp : type_of% (wp_of c96_49.eq_1) := wp_of c96_49.eq_1
@[go_sem] theorem c96_50_wp : type_of% (wp_of c96_50.eq_1) := wp_of c96_50.eq_1
@[go_sem] theorem c96_51_wp : type_of% (wp_of c96_51.eq_1) := wp_of c96_51.eq_1
@[go_sem] theorem c96_52_wp : type_of% (wp_of c96_52.eq_1) := wp_of c96_52.eq_1
@[go_sem] theorem c96_53_wp : type_of% (wp_of c96_53.eq_1) := wp_of c96_53.eq_1
@[go_sem] theorem c96_54_wp : type_of% (wp_of c96_54.eq_1) := wp_of c96_54.eq_1
@[go_sem] theorem c96_55_wp : type_of% (wp_of c96_55.eq_1) := wp_of c96_55.eq_1
@[go_sem] theorem c96_56_wp : type_of% (wp_of c96_56.eq_1) := wp_of c96_56.eq_1
@[go_sem] theorem c96_57_wp : type_of% (wp_of c96_57.eq_1) := wp_of c96_57.eq_1
def c96 : AFn := ⟨88, [.t 4], c96_57⟩
set_option maxRecDepth 100000 in
theorem c96_ok : compF Tryd.prog Tryd.f96 = some c96 := by kernel_rfl
theorem a96 {args : List AV} {σ : ASt} {R : AV → ASt → Prop} (hl : args.length ≤ 88) (h : c96_57.wp Tryd.prog (RetQ [.t 4] R) (init args) σ) : ACalls Tryd.prog 96 args σ R := acalls_of Tryd.func96 c96_ok hl h

/-! 106: tabular/tabularref11.more -/
def c106_0 : ACode := .ops [
    ⟨(some 8), none, .q (.mv (.v (.bool false))), []⟩]
def c106_1 : ACode := .ops [
    ⟨(some 9), none, .q (.mv (.t 1)), []⟩,
    ⟨(some 10), none, .q (.mv (.t 0)), []⟩,
    ⟨(some 11), none, .q (.lenS (.t 10)), []⟩,
    ⟨(some 12), none, .q (.bin .lss (.t 9) (.t 11)), []⟩,
    ⟨(some 13), none, .q (.mv (.t 12)), []⟩,
    ⟨(some 14), (some (13, true)), .q (.mv (.t 0)), []⟩,
    ⟨(some 15), (some (13, true)), .q (.mv (.t 1)), []⟩,
    ⟨(some 16), (some (13, true)), .q (.idx (.t 14) (.t 15)), []⟩,
    ⟨(some 17), (some (13, true)), .q (.conv .i64 (.t 16)), []⟩,
    ⟨(some 18), (some (13, true)), .q (.mv (.t 2)), []⟩,
    ⟨(some 19), (some (13, true)), .q (.bin .geq (.t 17) (.t 18)), []⟩,
    ⟨(some 20), none, .q (.pick (.t 13) (.t 19) (.v (.bool false))), []⟩,
    ⟨(some 21), none, .q (.mv (.t 20)), []⟩,
    ⟨(some 22), (some (21, true)), .q (.mv (.t 0)), []⟩,
    ⟨(some 23), (some (21, true)), .q (.mv (.t 1)), []⟩,
    ⟨(some 24), (some (21, true)), .q (.idx (.t 22) (.t 23)), []⟩,
    ⟨(some 25), (some (21, true)), .q (.conv .i64 (.t 24)), []⟩,
    ⟨(some 26), (some (21, true)), .q (.mv (.t 3)), []⟩,
    ⟨(some 27), (some (21, true)), .q (.bin .leq (.t 25) (.t 26)), []⟩,
    ⟨(some 28), none, .q (.pick (.t 21) (.t 27) (.v (.bool false))), []⟩,
    ⟨(some 8), none, .q (.mv (.t 28)), []⟩]
def c106_2 : ACode := .seq c106_1 .ret
def c106_3 : ACode := .seq c106_0 c106_2
@[go_sem] theorem c106_0_wp : type_of% (wp_of c106_0.eq_1) := wp_of c106_0.eq_1
@[go_sem] theorem c106_1_wp : type_of% (wp_of c106_1.eq_1) := wp_of c106_1.eq_1
@[go_sem] theorem c106_2_wp : type_of% (wp_of c106_2.eq_1) := wp_of c106_2.eq_1
@[go_sem] theorem c106_3_wp : type_of% (wp_of c106_3.eq_1) := wp_of c106_3.eq_1
def c106 : AFn := ⟨29, [.t 8], c106_3⟩
set_option maxRecDepth 100000 in
theorem c106_ok : compF Tryd.prog Tryd.f106 = some c106 := by kernel_rfl
theorem a106 {args : List AV} {σ : ASt} {R : AV → ASt → Prop} (hl : args.length ≤ 29) (h : c106_3.wp Tryd.prog (RetQ [.t 8] R) (init args) σ) : ACalls Tryd.prog 106 args σ R := acalls_of Tryd.func106 c106_ok hl h

end Go.A
