/- The functions, compiled: by program (wip/gencode.py). -/
import Derived.Test.YtmefepbdognkdaaDoorBk
import Derived.Test.YtmefepbdognkdaaDoorProg
import Derived.KernelRfl
namespace Go.A
open Go.Proofs

/-! 8: tabular/deci.Good -/
def c8_0 : ACode := .ops [
    ⟨(some 2), none, .q (.mv (.v (.bool false))), []⟩]
def c8_1 : ACode := .ops [
    ⟨(some 3), none, .q (.mv (.t 0)), []⟩,
    ⟨(some 4), none, .q (.bin .geq (.t 3) (.v (.int .i64 (-999999999999999999)))), []⟩,
    ⟨(some 5), none, .q (.mv (.t 4)), []⟩,
    ⟨(some 6), (some (5, true)), .q (.mv (.t 0)), []⟩,
    ⟨(some 7), (some (5, true)), .q (.bin .leq (.t 6) (.v (.int .i64 999999999999999999))), []⟩,
    ⟨(some 8), none, .q (.pick (.t 5) (.t 7) (.v (.bool false))), []⟩,
    ⟨(some 2), none, .q (.mv (.t 8)), []⟩]
def c8_2 : ACode := .seq c8_1 .ret
def c8_3 : ACode := .seq c8_0 c8_2
@[go_sem] theorem c8_0_wp : type_of% (wp_of c8_0.eq_1) := wp_of c8_0.eq_1
@[go_sem] theorem c8_1_wp : type_of% (wp_of c8_1.eq_1) := wp_of c8_1.eq_1
@[go_sem] theorem c8_2_wp : type_of% (wp_of c8_2.eq_1) := wp_of c8_2.eq_1
@[go_sem] theorem c8_3_wp : type_of% (wp_of c8_3.eq_1) := wp_of c8_3.eq_1
def c8 : AFn := ⟨9, [.t 2], c8_3⟩
set_option maxRecDepth 100000 in
theorem c8_ok : compF Tryd.prog Tryd.f8 = some c8 := by kernel_rfl
theorem a8 {args : List AV} {σ : ASt} {R : AV → ASt → Prop} (hl : args.length ≤ 9) (h : c8_3.wp Tryd.prog (RetQ [.t 2] R) (init args) σ) : ACalls Tryd.prog 8 args σ R := acalls_of Tryd.func8 c8_ok hl h

/-! 11: tabular/deci.Abs -/
def c11_0 : ACode := .ops [
    ⟨(some 2), none, .q (.mv (.v (.int .i64 0))), []⟩]
def c11_1 : ACode := .ops [
    ⟨(some 3), none, .q (.mv (.t 0)), []⟩,
    ⟨(some 4), none, .q (.bin .lss (.t 3) (.v (.int .i64 0))), []⟩]
def c11_2 : ACode := .ops [
    ⟨(some 5), none, .q (.mv (.t 0)), []⟩,
    ⟨(some 6), none, .q (.un .neg (.t 5)), []⟩,
    ⟨(some 2), none, .q (.mv (.t 6)), []⟩]
def c11_3 : ACode := .seq c11_2 .ret
def c11_4 : ACode := .cond (.t 4) c11_3 .skip
def c11_5 : ACode := .seq c11_1 c11_4
def c11_6 : ACode := .ops [
    ⟨(some 7), none, .q (.mv (.t 0)), []⟩,
    ⟨(some 2), none, .q (.mv (.t 7)), []⟩]
def c11_7 : ACode := .seq c11_6 .ret
def c11_8 : ACode := .seq c11_5 c11_7
def c11_9 : ACode := .seq c11_0 c11_8
@[go_sem] theorem c11_0_wp : type_of% (wp_of c11_0.eq_1) := wp_of c11_0.eq_1
@[go_sem] theorem c11_1_wp : type_of% (wp_of c11_1.eq_1) := wp_of c11_1.eq_1
@[go_sem] theorem c11_2_wp : type_of% (wp_of c11_2.eq_1) := wp_of c11_2.eq_1
@[go_sem] theorem c11_3_wp : type_of% (wp_of c11_3.eq_1) := wp_of c11_3.eq_1
@[go_sem] theorem c11_4_wp : type_of% (wp_of c11_4.eq_1) := wp_of c11_4.eq_1
@[go_sem] theorem c11_5_wp : type_of% (wp_of c11_5.eq_1) := wp_of c11_5.eq_1
@[go_sem] theorem c11_6_wp : type_of% (wp_of c11_6.eq_1) := wp_of c11_6.eq_1
@[go_sem] theorem c11_7_wp : type_of% (wp_of c11_7.eq_1) := wp_of c11_7.eq_1
@[go_sem] theorem c11_8_wp : type_of% (wp_of c11_8.eq_1) := wp_of c11_8.eq_1
@[go_sem] theorem c11_9_wp : type_of% (wp_of c11_9.eq_1) := wp_of c11_9.eq_1
def c11 : AFn := ⟨8, [.t 2], c11_9⟩
set_option maxRecDepth 100000 in
theorem c11_ok : compF Tryd.prog Tryd.f11 = some c11 := by kernel_rfl
theorem a11 {args : List AV} {σ : ASt} {R : AV → ASt → Prop} (hl : args.length ≤ 8) (h : c11_9.wp Tryd.prog (RetQ [.t 2] R) (init args) σ) : ACalls Tryd.prog 11 args σ R := acalls_of Tryd.func11 c11_ok hl h

/-! 12: (tabular/deci.Dec).IsInt -/
def c12_0 : ACode := .ops [
    ⟨(some 2), none, .q (.mv (.v (.bool false))), []⟩]
def c12_1 : ACode := .ops [
    ⟨(some 3), none, .q (.mv (.t 0)), []⟩,
    ⟨(some 4), none, .q (.bin .rem (.t 3) (.v (.int .i64 10000))), []⟩,
    ⟨(some 5), none, .q (.bin .eql (.t 4) (.v (.int .i64 0))), []⟩,
    ⟨(some 2), none, .q (.mv (.t 5)), []⟩]
def c12_2 : ACode := .seq c12_1 .ret
def c12_3 : ACode := .seq c12_0 c12_2
@[go_sem] theorem c12_0_wp : type_of% (wp_of c12_0.eq_1) := wp_of c12_0.eq_1
@[go_sem] theorem c12_1_wp : type_of% (wp_of c12_1.eq_1) := wp_of c12_1.eq_1
@[go_sem] theorem c12_2_wp : type_of% (wp_of c12_2.eq_1) := wp_of c12_2.eq_1
@[go_sem] theorem c12_3_wp : type_of% (wp_of c12_3.eq_1) := wp_of c12_3.eq_1
def c12 : AFn := ⟨6, [.t 2], c12_3⟩
set_option maxRecDepth 100000 in
theorem c12_ok : compF Tryd.prog Tryd.f12 = some c12 := by kernel_rfl
theorem a12 {args : List AV} {σ : ASt} {R : AV → ASt → Prop} (hl : args.length ≤ 6) (h : c12_3.wp Tryd.prog (RetQ [.t 2] R) (init args) σ) : ACalls Tryd.prog 12 args σ R := acalls_of Tryd.func12 c12_ok hl h

/-! 13: (tabular/deci.Dec).Whole -/
def c13_0 : ACode := .ops [
    ⟨(some 2), none, .q (.mv (.v (.int .i64 0))), []⟩]
def c13_1 : ACode := .ops [
    ⟨(some 3), none, .q (.mv (.t 0)), []⟩,
    ⟨(some 4), none, .q (.bin .quo (.t 3) (.v (.int .i64 10000))), []⟩,
    ⟨(some 2), none, .q (.mv (.t 4)), []⟩]
def c13_2 : ACode := .seq c13_1 .ret
def c13_3 : ACode := .seq c13_0 c13_2
@[go_sem] theorem c13_0_wp : type_of% (wp_of c13_0.eq_1) := wp_of c13_0.eq_1
@[go_sem] theorem c13_1_wp : type_of% (wp_of c13_1.eq_1) := wp_of c13_1.eq_1
@[go_sem] theorem c13_2_wp : type_of% (wp_of c13_2.eq_1) := wp_of c13_2.eq_1
@[go_sem] theorem c13_3_wp : type_of% (wp_of c13_3.eq_1) := wp_of c13_3.eq_1
def c13 : AFn := ⟨5, [.t 2], c13_3⟩
set_option maxRecDepth 100000 in
theorem c13_ok : compF Tryd.prog Tryd.f13 = some c13 := by kernel_rfl
theorem a13 {args : List AV} {σ : ASt} {R : AV → ASt → Prop} (hl : args.length ≤ 5) (h : c13_3.wp Tryd.prog (RetQ [.t 2] R) (init args) σ) : ACalls Tryd.prog 13 args σ R := acalls_of Tryd.func13 c13_ok hl h

/-! 27: tabular/tabularlaw01.Cut -/
def c27_0 : ACode := .ops [
    ⟨(some 4), none, .q (.mv (.v (.str []))), []⟩]
def c27_1 : ACode := .ops [
    ⟨(some 5), none, .q (.mv (.t 0)), []⟩,
    ⟨(some 6), none, .q (.lenS (.t 5)), []⟩,
    ⟨(some 7), none, .q (.mv (.t 1)), []⟩,
    ⟨(some 8), none, .q (.bin .gtr (.t 6) (.t 7)), []⟩]
def c27_2 : ACode := .ops [
    ⟨(some 9), none, .q (.mv (.t 0)), []⟩,
    ⟨(some 10), none, .q (.mv (.t 1)), []⟩,
    ⟨(some 11), none, .q (.slto (true, 0) (.t 9) (.t 10)), []⟩,
    ⟨(some 4), none, .q (.mv (.t 11)), []⟩]
def c27_3 : ACode := .seq c27_2 .ret
def c27_4 : ACode := .cond (.t 8) c27_3 .skip
def c27_5 : ACode := .seq c27_1 c27_4
def c27_6 : ACode := .ops [
    ⟨(some 12), none, .q (.mv (.t 0)), []⟩,
    ⟨(some 4), none, .q (.mv (.t 12)), []⟩]
def c27_7 : ACode := .seq c27_6 .ret
def c27_8 : ACode := .seq c27_5 c27_7
def c27_9 : ACode := .seq c27_0 c27_8
@[go_sem] theorem c27_0_wp : type_of% (wp_of c27_0.eq_1) := wp_of c27_0.eq_1
@[go_sem] theorem c27_1_wp : type_of% (wp_of c27_1.eq_1) := wp_of c27_1.eq_1
@[go_sem] theorem c27_2_wp : type_of% (wp_of c27_2.eq_1) := wp_of c27_2.eq_1
@[go_sem] theorem c27_3_wp : type_of% (wp_of c27_3.eq_1) := wp_of c27_3.eq_1
@[go_sem] theorem c27_4_wp : type_of% (wp_of c27_4.eq_1) := wp_of c27_4.eq_1
@[go_sem] theorem c27_5_wp : type_of% (wp_of c27_5.eq_1) := wp_of c27_5.eq_1
@[go_sem] theorem c27_6_wp : type_of% (wp_of c27_6.eq_1) := wp_of c27_6.eq_1
@[go_sem] theorem c27_7_wp : type_of% (wp_of c27_7.eq_1) := wp_of c27_7.eq_1
@[go_sem] theorem c27_8_wp : type_of% (wp_of c27_8.eq_1) := wp_of c27_8.eq_1
@[go_sem] theorem c27_9_wp : type_of% (wp_of c27_9.eq_1) := wp_of c27_9.eq_1
def c27 : AFn := ⟨13, [.t 4], c27_9⟩
set_option maxRecDepth 100000 in
theorem c27_ok : compF Tryd.prog Tryd.f27 = some c27 := by kernel_rfl
theorem a27 {args : List AV} {σ : ASt} {R : AV → ASt → Prop} (hl : args.length ≤ 13) (h : c27_9.wp Tryd.prog (RetQ [.t 4] R) (init args) σ) : ACalls Tryd.prog 27 args σ R := acalls_of Tryd.func27 c27_ok hl h

/-! 29: tabular/deci.Parse -/
def c29_0 : ACode := .ops [
    ⟨(some 2), none, .q (.mv (.v (.int .i64 0))), []⟩,
    ⟨(some 3), none, .q (.mv (.v (.bool false))), []⟩]
def c29_1 : ACode := .ops [
    ⟨(some 13), none, .q (.mv (.t 0)), []⟩,
    ⟨(some 14), none, .e (.call 61 [(.t 13), (.v (.str [45]))]), []⟩,
    ⟨(some 12), none, .q (.mv (.t 14)), []⟩,
    ⟨(some 15), none, .q (.ext 0 (.t 12)), []⟩,
    ⟨(some 16), none, .q (.ext 1 (.t 12)), []⟩,
    ⟨(some 4), none, .q (.mv (.t 15)), []⟩,
    ⟨(some 5), none, .q (.mv (.t 16)), []⟩]
def c29_2 : ACode := .ops [
    ⟨(some 18), none, .q (.mv (.t 4)), []⟩,
    ⟨(some 19), none, .e (.call 62 [(.t 18), (.v (.str [46]))]), []⟩,
    ⟨(some 17), none, .q (.mv (.t 19)), []⟩,
    ⟨(some 20), none, .q (.ext 0 (.t 17)), []⟩,
    ⟨(some 21), none, .q (.ext 1 (.t 17)), []⟩,
    ⟨(some 22), none, .q (.ext 2 (.t 17)), []⟩,
    ⟨(some 6), none, .q (.mv (.t 20)), []⟩,
    ⟨(some 7), none, .q (.mv (.t 21)), []⟩,
    ⟨(some 8), none, .q (.mv (.t 22)), []⟩]
def c29_3 : ACode := .ops [
    ⟨(some 23), none, .q (.mv (.t 6)), []⟩,
    ⟨(some 24), none, .q (.bin .eql (.t 23) (.v (.str []))), []⟩,
    ⟨(some 25), none, .q (.mv (.t 24)), []⟩,
    ⟨(some 26), (some (25, false)), .q (.mv (.t 8)), []⟩,
    ⟨(some 27), (some (25, false)), .q (.mv (.t 26)), []⟩,
    ⟨(some 28), (some (27, true)), .q (.mv (.t 7)), []⟩,
    ⟨(some 29), (some (27, true)), .q (.bin .eql (.t 28) (.v (.str []))), []⟩,
    ⟨(some 30), (some (27, true)), .q (.mv (.t 29)), []⟩,
    ⟨(some 31), (some (30, false)), .q (.mv (.t 7)), []⟩,
    ⟨(some 32), (some (30, false)), .q (.lenS (.t 31)), []⟩,
    ⟨(some 33), (some (30, false)), .q (.bin .gtr (.t 32) (.v (.int .i64 4))), []⟩,
    ⟨(some 34), (some (27, true)), .q (.pick (.t 30) (.v (.bool true)) (.t 33)), []⟩,
    ⟨(some 35), (some (25, false)), .q (.pick (.t 27) (.t 34) (.v (.bool false))), []⟩,
    ⟨(some 36), none, .q (.pick (.t 25) (.v (.bool true)) (.t 35)), []⟩]
def c29_4 : ACode := .ops [
    ⟨(some 2), none, .q (.mv (.v (.int .i64 0))), []⟩,
    ⟨(some 3), none, .q (.mv (.v (.bool false))), []⟩]
def c29_5 : ACode := .seq c29_4 .ret
def c29_6 : ACode := .cond (.t 36) c29_5 .skip
def c29_7 : ACode := .seq c29_3 c29_6
def c29_8 : ACode := .ops [
    ⟨(some 9), none, .q (.mv (.v (.int .u64 0))), []⟩]
def c29_9 : ACode := .ops [
    ⟨(some 37), none, .q (.mv (.t 6)), []⟩,
    ⟨(some 38), none, .q (.mv (.t 7)), []⟩,
    ⟨(some 39), none, .q (.bin .add (.t 37) (.t 38)), []⟩,
    ⟨(some 40), none, .q (.mv (.t 7)), []⟩,
    ⟨(some 41), none, .q (.lenS (.t 40)), []⟩,
    ⟨(some 42), none, .q (.slfrom (true, 0) (.v (.str [48, 48, 48, 48])) (.t 41)), []⟩,
    ⟨(some 43), none, .q (.bin .add (.t 39) (.t 42)), []⟩,
    ⟨(some 44), none, .e (.s2b (.t 43)), []⟩,
    ⟨(some 45), none, .q (.len (.t 44)), []⟩,
    ⟨(some 46), none, .q (.mv (.v (.int .i64 0))), []⟩]
def c29_10 : ACode := .ops [
    ⟨(some 47), none, .q (.bin .lss (.t 46) (.t 45)), []⟩]
def c29_11 : ACode := .cond (.t 47) .skip (.exit 0)
def c29_12 : ACode := .ops [
    ⟨(some 48), none, .q (.ia 1 (.t 44) (.t 46)), []⟩,
    ⟨(some 49), none, .q (.ld none (.t 48)), []⟩,
    ⟨(some 11), none, .q (.mv (.t 49)), []⟩]
def c29_13 : ACode := .ops [
    ⟨(some 50), none, .q (.mv (.t 11)), []⟩,
    ⟨(some 51), none, .q (.bin .lss (.t 50) (.v (.int .u8 48))), []⟩,
    ⟨(some 52), none, .q (.mv (.t 51)), []⟩,
    ⟨(some 53), (some (52, false)), .q (.mv (.t 11)), []⟩,
    ⟨(some 54), (some (52, false)), .q (.bin .gtr (.t 53) (.v (.int .u8 57))), []⟩,
    ⟨(some 55), none, .q (.pick (.t 52) (.v (.bool true)) (.t 54)), []⟩,
    ⟨(some 56), none, .q (.mv (.t 55)), []⟩,
    ⟨(some 57), (some (56, false)), .q (.mv (.t 9)), []⟩,
    ⟨(some 58), (some (56, false)), .q (.bin .gtr (.t 57) (.v (.int .u64 99999999999999999))), []⟩,
    ⟨(some 59), none, .q (.pick (.t 56) (.v (.bool true)) (.t 58)), []⟩]
def c29_14 : ACode := .ops [
    ⟨(some 2), none, .q (.mv (.v (.int .i64 0))), []⟩,
    ⟨(some 3), none, .q (.mv (.v (.bool false))), []⟩]
def c29_15 : ACode := .seq c29_14 .ret
def c29_16 : ACode := .cond (.t 59) c29_15 .skip
def c29_17 : ACode := .seq c29_13 c29_16
def c29_18 : ACode := .ops [
    ⟨(some 60), none, .q (.mv (.t 9)), []⟩,
    ⟨(some 61), none, .q (.bin .mul (.v (.int .u64 10)) (.t 60)), []⟩,
    ⟨(some 62), none, .q (.mv (.t 11)), []⟩,
    ⟨(some 63), none, .q (.bin .sub (.t 62) (.v (.int .u8 48))), []⟩,
    ⟨(some 64), none, .q (.conv .u64 (.t 63)), []⟩,
    ⟨(some 65), none, .q (.bin .add (.t 61) (.t 64)), []⟩,
    ⟨(some 9), none, .q (.mv (.t 65)), []⟩]
def c29_19 : ACode := .seq c29_17 c29_18
def c29_20 : ACode := .seq c29_12 c29_19
def c29_21 : ACode := .block 1 c29_20
def c29_22 : ACode := .ops [
    ⟨(some 66), none, .q (.bin .add (.t 46) (.v (.int .i64 1))), []⟩,
    ⟨(some 46), none, .q (.mv (.t 66)), []⟩]
def c29_23 : ACode := .seq c29_21 c29_22
def c29_24 : ACode := .seq c29_11 c29_23
def c29_25 : ACode := .seq c29_10 c29_24
def c29_26 : ACode := .loop c29_25
def c29_27 : ACode := .block 0 c29_26
def c29_28 : ACode := .seq c29_9 c29_27
def c29_29 : ACode := .ops [
    ⟨(some 67), none, .q (.mv (.t 5)), []⟩,
    ⟨(some 68), none, .q (.mv (.t 9)), []⟩,
    ⟨(some 69), none, .e (.call 63 [(.t 67), (.v (.int .u64 0)), (.t 68)]), []⟩,
    ⟨(some 70), none, .q (.ext 0 (.t 69)), []⟩,
    ⟨(some 71), none, .q (.ext 1 (.t 69)), []⟩,
    ⟨(some 2), none, .q (.mv (.t 70)), []⟩,
    ⟨(some 3), none, .q (.mv (.t 71)), []⟩]
def c29_30 : ACode := .seq c29_29 .ret
def c29_31 : ACode := .seq c29_28 c29_30
def c29_32 : ACode := .seq c29_8 c29_31
def c29_33 : ACode := .seq c29_7 c29_32
def c29_34 : ACode := .seq c29_2 c29_33
def c29_35 : ACode := .seq c29_1 c29_34
def c29_36 : ACode := .seq c29_0 c29_35
@[go_sem] theorem c29_0_wp : type_of% (wp_of c29_0.eq_1) := wp_of c29_0.eq_1
@[go_sem] theorem c29_1_wp : type_of% (wp_of c29_1.eq_1) := wp_of c29_1.eq_1
@[go_sem] theorem c29_2_wp : type_of% (wp_of c29_2.eq_1) := wp_of c29_2.eq_1
@[go_sem] theorem c29_3_wp : type_of% (wp_of c29_3.eq_1) := wp_of c29_3.eq_1
@[go_sem] theorem c29_4_wp : type_of% (wp_of c29_4.eq_1) := wp_of c29_4.eq_1
@[go_sem] theorem c29_5_wp : type_of% (wp_of c29_5.eq_1) := wp_of c29_5.eq_1
@[go_sem] theorem c29_6_wp : type_of% (wp_of c29_6.eq_1) := wp_of c29_6.eq_1
@[go_sem] theorem c29_7_wp : type_of% (wp_of c29_7.eq_1) := wp_of c29_7.eq_1
@[go_sem] theorem c29_8_wp : type_of% (wp_of c29_8.eq_1) := wp_of c29_8.eq_1
@[go_sem] theorem c29_9_wp : type_of% (wp_of c29_9.eq_1) := wp_of c29_9.eq_1
@[go_sem] theorem c29_10_wp : type_of% (wp_of c29_10.eq_1) := wp_of c29_10.eq_1
@[go_sem] theorem c29_11_wp : type_of% (wp_of c29_11.eq_1) := wp_of c29_11.eq_1
@[go_sem] theorem c29_12_wp : type_of% (wp_of c29_12.eq_1) := wp_of c29_12.eq_1
@[go_sem] theorem c29_13_wp : type_of% (wp_of c29_13.eq_1) := wp_of c29_13.eq_1
@[go_sem] theorem c29_14_wp : type_of% (wp_of c29_14.eq_1) := wp_of c29_14.eq_1
@[go_sem] theorem c29_15_wp : type_of% (wp_of c29_15.eq_1) := wp_of c29_15.eq_1
@[go_sem] theorem c29_16_wp : type_of% (wp_of c29_16.eq_1) := wp_of c29_16.eq_1
@[go_sem] theorem c29_17_wp : type_of% (wp_of c29_17.eq_1) := wp_of c29_17.eq_1
@[go_sem] theorem c29_18_wp : type_of% (wp_of c29_18.eq_1) := wp_of c29_18.eq_1
@[go_sem] theorem c29_19_wp : type_of% (wp_of c29_19.eq_1) := wp_of c29_19.eq_1
@[go_sem] theorem c29_20_wp : type_of% (wp_of c29_20.eq_1) := wp_of c29_20.eq_1
@[go_sem] theorem c29_21_wp : type_of% (wp_of c29_21.eq_1) := wp_of c29_21.eq_1
@[go_sem] theorem c29_22_wp : type_of% (wp_of c29_22.eq_1) := wp_of c29_22.eq_1
@[go_sem] theorem c29_23_wp : type_of% (wp_of c29_23.eq_1) := wp_of c29_23.eq_1
@[go_sem] theorem c29_24_wp : type_of% (wp_of c29_24.eq_1) := wp_of c29_24.eq_1
@[go_sem] theorem c29_25_wp : type_of% (wp_of c29_25.eq_1) := wp_of c29_25.eq_1
@[go_sem] theorem c29_26_wp : type_of% (wp_of c29_26.eq_1) := wp_of c29_26.eq_1
@[go_sem] theorem c29_27_wp : type_of% (wp_of c29_27.eq_1) := wp_of c29_27.eq_1
@[go_sem] theorem c29_28_wp : type_of% (wp_of c29_28.eq_1) := wp_of c29_28.eq_1
@[go_sem] theorem c29_29_wp : type_of% (wp_of c29_29.eq_1) := wp_of c29_29.eq_1
@[go_sem] theorem c29_30_wp : type_of% (wp_of c29_30.eq_1) := wp_of c29_30.eq_1
@[go_sem] theorem c29_31_wp : type_of% (wp_of c29_31.eq_1) := wp_of c29_31.eq_1
@[go_sem] theorem c29_32_wp : type_of% (wp_of c29_32.eq_1) := wp_of c29_32.eq_1
@[go_sem] theorem c29_33_wp : type_of% (wp_of c29_33.eq_1) := wp_of c29_33.eq_1
@[go_sem] theorem c29_34_wp : type_of% (wp_of c29_34.eq_1) := wp_of c29_34.eq_1
@[go_sem] theorem c29_35_wp : type_of% (wp_of c29_35.eq_1) := wp_of c29_35.eq_1
@[go_sem] theorem c29_36_wp : type_of% (wp_of c29_36.eq_1) := wp_of c29_36.eq_1
def c29 : AFn := ⟨72, [.t 2, .t 3], c29_36⟩
set_option maxRecDepth 100000 in
theorem c29_ok : compF Tryd.prog Tryd.f29 = some c29 := by kernel_rfl
theorem a29 {args : List AV} {σ : ASt} {R : AV → ASt → Prop} (hl : args.length ≤ 72) (h : c29_36.wp Tryd.prog (RetQ [.t 2, .t 3] R) (init args) σ) : ACalls Tryd.prog 29 args σ R := acalls_of Tryd.func29 c29_ok hl h

/-! 33: tabular/deci.Sign -/
def c33_0 : ACode := .ops [
    ⟨(some 2), none, .q (.mv (.v (.int .i64 0))), []⟩]
def c33_1 : ACode := .ops [
    ⟨(some 4), none, .q (.mv (.t 0)), []⟩,
    ⟨(some 5), none, .q (.bin .lss (.t 4) (.v (.int .i64 0))), []⟩,
    ⟨(some 3), none, .q (.mv (.t 5)), []⟩]
def c33_2 : ACode := .ops [
    ⟨(some 2), none, .q (.mv (.v (.int .i64 (-1)))), []⟩]
def c33_3 : ACode := .seq c33_2 .ret
def c33_4 : ACode := .ops [
    ⟨(some 7), none, .q (.mv (.t 0)), []⟩,
    ⟨(some 8), none, .q (.bin .gtr (.t 7) (.v (.int .i64 0))), []⟩,
    ⟨(some 6), none, .q (.mv (.t 8)), []⟩]
def c33_5 : ACode := .ops [
    ⟨(some 2), none, .q (.mv (.v (.int .i64 1))), []⟩]
def c33_6 : ACode := .seq c33_5 .ret
def c33_7 : ACode := .cond (.t 6) c33_6 .skip
def c33_8 : ACode := .seq c33_4 c33_7
def c33_9 : ACode := .cond (.t 3) c33_3 c33_8
def c33_10 : ACode := .seq c33_1 c33_9
def c33_11 : ACode := .block 0 c33_10
def c33_12 : ACode := .ops [
    ⟨(some 2), none, .q (.mv (.v (.int .i64 0))), []⟩]
def c33_13 : ACode := .seq c33_12 .ret
def c33_14 : ACode := .seq c33_11 c33_13
def c33_15 : ACode := .seq c33_0 c33_14
@[go_sem] theorem c33_0_wp : type_of% (wp_of c33_0.eq_1) := wp_of c33_0.eq_1
@[go_sem] theorem c33_1_wp : type_of% (wp_of c33_1.eq_1) := wp_of c33_1.eq_1
@[go_sem] theorem c33_2_wp : type_of% (wp_of c33_2.eq_1) := wp_of c33_2.eq_1
@[go_sem] theorem c33_3_wp : type_of% (wp_of c33_3.eq_1) := wp_of c33_3.eq_1
@[go_sem] theorem c33_4_wp : type_of% (wp_of c33_4.eq_1) := wp_of c33_4.eq_1
@[go_sem] theorem c33_5_wp : type_of% (wp_of c33_5.eq_1) := wp_of c33_5.eq_1
@[go_sem] theorem c33_6_wp : type_of% (wp_of c33_6.eq_1) := wp_of c33_6.eq_1
@[go_sem] theorem c33_7_wp : type_of% (wp_of c33_7.eq_1) := wp_of c33_7.eq_1
@[go_sem] theorem c33_8_wp : type_of% (wp_of c33_8.eq_1) := wp_of c33_8.eq_1
@[go_sem] theorem c33_9_wp : type_of% (wp_of c33_9.eq_1) := wp_of c33_9.eq_1
@[go_sem] theorem c33_10_wp : type_of% (wp_of c33_10.eq_1) := wp_of c33_10.eq_1
@[go_sem] theorem c33_11_wp : type_of% (wp_of c33_11.eq_1) := wp_of c33_11.eq_1
@[go_sem] theorem c33_12_wp : type_of% (wp_of c33_12.eq_1) := wp_of c33_12.eq_1
@[go_sem] theorem c33_13_wp : type_of% (wp_of c33_13.eq_1) := wp_of c33_13.eq_1
@[go_sem] theorem c33_14_wp : type_of% (wp_of c33_14.eq_1) := wp_of c33_14.eq_1
@[go_sem] theorem c33_15_wp : type_of% (wp_of c33_15.eq_1) := wp_of c33_15.eq_1
def c33 : AFn := ⟨9, [.t 2], c33_15⟩
set_option maxRecDepth 100000 in
theorem c33_ok : compF Tryd.prog Tryd.f33 = some c33 := by kernel_rfl
theorem a33 {args : List AV} {σ : ASt} {R : AV → ASt → Prop} (hl : args.length ≤ 9) (h : c33_15.wp Tryd.prog (RetQ [.t 2] R) (init args) σ) : ACalls Tryd.prog 33 args σ R := acalls_of Tryd.func33 c33_ok hl h

/-! 35: tabular/deci.Floor -/
def c35_0 : ACode := .ops [
    ⟨(some 4), none, .q (.mv (.v (.int .i64 0))), []⟩,
    ⟨(some 5), none, .q (.mv (.v (.bool false))), []⟩]
def c35_1 : ACode := .ops [
    ⟨(some 8), none, .q (.mv (.t 1)), []⟩,
    ⟨(some 9), none, .q (.bin .leq (.t 8) (.v (.int .i64 0))), []⟩]
def c35_2 : ACode := .ops [
    ⟨(some 4), none, .q (.mv (.v (.int .i64 0))), []⟩,
    ⟨(some 5), none, .q (.mv (.v (.bool false))), []⟩]
def c35_3 : ACode := .seq c35_2 .ret
def c35_4 : ACode := .cond (.t 9) c35_3 .skip
def c35_5 : ACode := .seq c35_1 c35_4
def c35_6 : ACode := .ops [
    ⟨(some 11), none, .q (.mv (.t 0)), []⟩,
    ⟨(some 12), none, .q (.mv (.t 1)), []⟩,
    ⟨(some 13), none, .e (.call 43 [(.t 11), (.t 12)]), []⟩,
    ⟨(some 10), none, .q (.mv (.t 13)), []⟩,
    ⟨(some 14), none, .q (.ext 0 (.t 10)), []⟩,
    ⟨(some 15), none, .q (.ext 1 (.t 10)), []⟩,
    ⟨(some 6), none, .q (.mv (.t 14)), []⟩,
    ⟨(some 7), none, .q (.mv (.t 15)), []⟩]
def c35_7 : ACode := .ops [
    ⟨(some 16), none, .q (.mv (.t 0)), []⟩,
    ⟨(some 17), none, .q (.mv (.t 6)), []⟩,
    ⟨(some 18), none, .e (.call 65 [(.t 16), (.t 17)]), []⟩,
    ⟨(some 19), none, .q (.ext 0 (.t 18)), []⟩,
    ⟨(some 20), none, .q (.ext 1 (.t 18)), []⟩,
    ⟨(some 4), none, .q (.mv (.t 19)), []⟩,
    ⟨(some 5), none, .q (.mv (.t 20)), []⟩]
def c35_8 : ACode := .seq c35_7 .ret
def c35_9 : ACode := .seq c35_6 c35_8
def c35_10 : ACode := .seq c35_5 c35_9
def c35_11 : ACode := .seq c35_0 c35_10
@[go_sem] theorem c35_0_wp : type_of% (wp_of c35_0.eq_1) := wp_of c35_0.eq_1
@[go_sem] theorem c35_1_wp : type_of% (wp_of c35_1.eq_1) := wp_of c35_1.eq_1
@[go_sem] theorem c35_2_wp : type_of% (wp_of c35_2.eq_1) := wp_of c35_2.eq_1
@[go_sem] theorem c35_3_wp : type_of% (wp_of c35_3.eq_1) := wp_of c35_3.eq_1
@[go_sem] theorem c35_4_wp : type_of% (wp_of c35_4.eq_1) := wp_of c35_4.eq_1
@[go_sem] theorem c35_5_wp : type_of% (wp_of c35_5.eq_1) := wp_of c35_5.eq_1
@[go_sem] theorem c35_6_wp : type_of% (wp_of c35_6.eq_1) := wp_of c35_6.eq_1
@[go_sem] theorem c35_7_wp : type_of% (wp_of c35_7.eq_1) := wp_of c35_7.eq_1
@[go_sem] theorem c35_8_wp : type_of% (wp_of c35_8.eq_1) := wp_of c35_8.eq_1
@[go_sem] theorem c35_9_wp : type_of% (wp_of c35_9.eq_1) := wp_of c35_9.eq_1
@[go_sem] theorem c35_10_wp : type_of% (wp_of c35_10.eq_1) := wp_of c35_10.eq_1
@[go_sem] theorem c35_11_wp : type_of% (wp_of c35_11.eq_1) := wp_of c35_11.eq_1
def c35 : AFn := ⟨21, [.t 4, .t 5], c35_11⟩
set_option maxRecDepth 100000 in
theorem c35_ok : compF Tryd.prog Tryd.f35 = some c35 := by kernel_rfl
theorem a35 {args : List AV} {σ : ASt} {R : AV → ASt → Prop} (hl : args.length ≤ 21) (h : c35_11.wp Tryd.prog (RetQ [.t 4, .t 5] R) (init args) σ) : ACalls Tryd.prog 35 args σ R := acalls_of Tryd.func35 c35_ok hl h

/-! 36: tabular/deci.Trunc -/
def c36_0 : ACode := .ops [
    ⟨(some 4), none, .q (.mv (.v (.int .i64 0))), []⟩]
def c36_1 : ACode := .ops [
    ⟨(some 7), none, .q (.mv (.t 1)), []⟩,
    ⟨(some 8), none, .q (.bin .lss (.t 7) (.v (.int .i64 (-14)))), []⟩]
def c36_2 : ACode := .ops [
    ⟨(some 4), none, .q (.mv (.v (.int .i64 0))), []⟩]
def c36_3 : ACode := .seq c36_2 .ret
def c36_4 : ACode := .cond (.t 8) c36_3 .skip
def c36_5 : ACode := .seq c36_1 c36_4
def c36_6 : ACode := .ops [
    ⟨(some 10), none, .q (.mv (.t 1)), []⟩,
    ⟨(some 11), none, .e (.call 66 [(.t 10)]), []⟩,
    ⟨(some 9), none, .q (.mv (.t 11)), []⟩,
    ⟨(some 12), none, .q (.ext 0 (.t 9)), []⟩,
    ⟨(some 13), none, .q (.ext 1 (.t 9)), []⟩,
    ⟨(some 5), none, .q (.mv (.t 12)), []⟩,
    ⟨(some 6), none, .q (.mv (.t 13)), []⟩]
def c36_7 : ACode := .ops [
    ⟨(some 14), none, .q (.mv (.t 6)), []⟩,
    ⟨(some 15), none, .q (.un .not (.t 14)), []⟩]
def c36_8 : ACode := .ops [
    ⟨(some 16), none, .q (.mv (.t 0)), []⟩,
    ⟨(some 4), none, .q (.mv (.t 16)), []⟩]
def c36_9 : ACode := .seq c36_8 .ret
def c36_10 : ACode := .cond (.t 15) c36_9 .skip
def c36_11 : ACode := .seq c36_7 c36_10
def c36_12 : ACode := .ops [
    ⟨(some 17), none, .q (.mv (.t 0)), []⟩,
    ⟨(some 18), none, .q (.mv (.t 0)), []⟩,
    ⟨(some 19), none, .q (.mv (.t 5)), []⟩,
    ⟨(some 20), none, .q (.conv .i64 (.t 19)), []⟩,
    ⟨(some 21), none, .q (.bin .rem (.t 18) (.t 20)), []⟩,
    ⟨(some 22), none, .q (.bin .sub (.t 17) (.t 21)), []⟩,
    ⟨(some 4), none, .q (.mv (.t 22)), []⟩]
def c36_13 : ACode := .seq c36_12 .ret
def c36_14 : ACode := .seq c36_11 c36_13
def c36_15 : ACode := .seq c36_6 c36_14
def c36_16 : ACode := .seq c36_5 c36_15
def c36_17 : ACode := .seq c36_0 c36_16
@[go_sem] theorem c36_0_wp : type_of% (wp_of c36_0.eq_1) := wp_of c36_0.eq_1
@[go_sem] theorem c36_1_wp : type_of% (wp_of c36_1.eq_1) := wp_of c36_1.eq_1
@[go_sem] theorem c36_2_wp : type_of% (wp_of c36_2.eq_1) := wp_of c36_2.eq_1
@[go_sem] theorem c36_3_wp : type_of% (wp_of c36_3.eq_1) := wp_of c36_3.eq_1
@[go_sem] theorem c36_4_wp : type_of% (wp_of c36_4.eq_1) := wp_of c36_4.eq_1
@[go_sem] theorem c36_5_wp : type_of% (wp_of c36_5.eq_1) := wp_of c36_5.eq_1
@[go_sem] theorem c36_6_wp : type_of% (wp_of c36_6.eq_1) := wp_of c36_6.eq_1
@[go_sem] theorem c36_7_wp : type_of% (wp_of c36_7.eq_1) := wp_of c36_7.eq_1
@[go_sem] theorem c36_8_wp : type_of% (wp_of c36_8.eq_1) := wp_of c36_8.eq_1
@[go_sem] theorem c36_9_wp : type_of% (wp_of c36_9.eq_1) := wp_of c36_9.eq_1
@[go_sem] theorem c36_10_wp : type_of% (wp_of c36_10.eq_1) := wp_of c36_10.eq_1
@[go_sem] theorem c36_11_wp : type_of% (wp_of c36_11.eq_1) := wp_of c36_11.eq_1
@[go_sem] theorem c36_12_wp : type_of% (wp_of c36_12.eq_1) := wp_of c36_12.eq_1
@[go_sem] theorem c36_13_wp : type_of% (wp_of c36_13.eq_1) := wp_of c36_13.eq_1
@[go_sem] theorem c36_14_wp : type_of% (wp_of c36_14.eq_1) := wp_of c36_14.eq_1
@[go_sem] theorem c36_15_wp : type_of% (wp_of c36_15.eq_1) := wp_of c36_15.eq_1
@[go_sem] theorem c36_16_wp : type_of% (wp_of c36_16.eq_1) := wp_of c36_16.eq_1
@[go_sem] theorem c36_17_wp : type_of% (wp_of c36_17.eq_1) := wp_of c36_17.eq_1
def c36 : AFn := ⟨23, [.t 4], c36_17⟩
set_option maxRecDepth 100000 in
theorem c36_ok : compF Tryd.prog Tryd.f36 = some c36 := by kernel_rfl
theorem a36 {args : List AV} {σ : ASt} {R : AV → ASt → Prop} (hl : args.length ≤ 23) (h : c36_17.wp Tryd.prog (RetQ [.t 4] R) (init args) σ) : ACalls Tryd.prog 36 args σ R := acalls_of Tryd.func36 c36_ok hl h

/-! 38: tabular/deci.Round -/
def c38_0 : ACode := .ops [
    ⟨(some 4), none, .q (.mv (.v (.int .i64 0))), []⟩,
    ⟨(some 5), none, .q (.mv (.v (.bool false))), []⟩]
def c38_1 : ACode := .ops [
    ⟨(some 10), none, .q (.mv (.t 1)), []⟩,
    ⟨(some 11), none, .q (.bin .lss (.t 10) (.v (.int .i64 (-14)))), []⟩]
def c38_2 : ACode := .ops [
    ⟨(some 4), none, .q (.mv (.v (.int .i64 0))), []⟩,
    ⟨(some 5), none, .q (.mv (.v (.bool true))), []⟩]
def c38_3 : ACode := .seq c38_2 .ret
def c38_4 : ACode := .cond (.t 11) c38_3 .skip
def c38_5 : ACode := .seq c38_1 c38_4
def c38_6 : ACode := .ops [
    ⟨(some 13), none, .q (.mv (.t 1)), []⟩,
    ⟨(some 14), none, .e (.call 66 [(.t 13)]), []⟩,
    ⟨(some 12), none, .q (.mv (.t 14)), []⟩,
    ⟨(some 15), none, .q (.ext 0 (.t 12)), []⟩,
    ⟨(some 16), none, .q (.ext 1 (.t 12)), []⟩,
    ⟨(some 6), none, .q (.mv (.t 15)), []⟩,
    ⟨(some 7), none, .q (.mv (.t 16)), []⟩]
def c38_7 : ACode := .ops [
    ⟨(some 17), none, .q (.mv (.t 7)), []⟩,
    ⟨(some 18), none, .q (.un .not (.t 17)), []⟩]
def c38_8 : ACode := .ops [
    ⟨(some 19), none, .q (.mv (.t 0)), []⟩,
    ⟨(some 4), none, .q (.mv (.t 19)), []⟩,
    ⟨(some 5), none, .q (.mv (.v (.bool true))), []⟩]
def c38_9 : ACode := .seq c38_8 .ret
def c38_10 : ACode := .cond (.t 18) c38_9 .skip
def c38_11 : ACode := .seq c38_7 c38_10
def c38_12 : ACode := .ops [
    ⟨(some 20), none, .q (.mv (.t 0)), []⟩,
    ⟨(some 21), none, .e (.call 67 [(.t 20)]), []⟩,
    ⟨(some 8), none, .q (.mv (.t 21)), []⟩]
def c38_13 : ACode := .ops [
    ⟨(some 22), none, .q (.mv (.t 8)), []⟩,
    ⟨(some 23), none, .q (.mv (.t 6)), []⟩,
    ⟨(some 24), none, .q (.bin .rem (.t 22) (.t 23)), []⟩,
    ⟨(some 9), none, .q (.mv (.t 24)), []⟩]
def c38_14 : ACode := .ops [
    ⟨(some 25), none, .q (.mv (.t 8)), []⟩,
    ⟨(some 26), none, .q (.mv (.t 9)), []⟩,
    ⟨(some 27), none, .q (.bin .sub (.t 25) (.t 26)), []⟩,
    ⟨(some 8), none, .q (.mv (.t 27)), []⟩]
def c38_15 : ACode := .ops [
    ⟨(some 28), none, .q (.mv (.t 9)), []⟩,
    ⟨(some 29), none, .q (.mv (.t 6)), []⟩,
    ⟨(some 30), none, .q (.mv (.t 9)), []⟩,
    ⟨(some 31), none, .q (.bin .sub (.t 29) (.t 30)), []⟩,
    ⟨(some 32), none, .q (.bin .geq (.t 28) (.t 31)), []⟩]
def c38_16 : ACode := .ops [
    ⟨(some 33), none, .q (.mv (.t 8)), []⟩,
    ⟨(some 34), none, .q (.mv (.t 6)), []⟩,
    ⟨(some 35), none, .q (.bin .add (.t 33) (.t 34)), []⟩,
    ⟨(some 8), none, .q (.mv (.t 35)), []⟩]
def c38_17 : ACode := .cond (.t 32) c38_16 .skip
def c38_18 : ACode := .seq c38_15 c38_17
def c38_19 : ACode := .ops [
    ⟨(some 36), none, .q (.mv (.t 0)), []⟩,
    ⟨(some 37), none, .q (.bin .lss (.t 36) (.v (.int .i64 0))), []⟩,
    ⟨(some 38), none, .q (.mv (.t 8)), []⟩,
    ⟨(some 39), none, .e (.call 63 [(.t 37), (.v (.int .u64 0)), (.t 38)]), []⟩,
    ⟨(some 40), none, .q (.ext 0 (.t 39)), []⟩,
    ⟨(some 41), none, .q (.ext 1 (.t 39)), []⟩,
    ⟨(some 4), none, .q (.mv (.t 40)), []⟩,
    ⟨(some 5), none, .q (.mv (.t 41)), []⟩]
def c38_20 : ACode := .seq c38_19 .ret
def c38_21 : ACode := .seq c38_18 c38_20
def c38_22 : ACode := .seq c38_14 c38_21
def c38_23 : ACode := .seq c38_13 c38_22
def c38_24 : ACode := .seq c38_12 c38_23
def c38_25 : ACode := .seq c38_11 c38_24
def c38_26 : ACode := .seq c38_6 c38_25
def c38_27 : ACode := .seq c38_5 c38_26
def c38_28 : ACode := .seq c38_0 c38_27
@[go_sem] theorem c38_0_wp : type_of% (wp_of c38_0.eq_1) := wp_of c38_0.eq_1
@[go_sem] theorem c38_1_wp : type_of% (wp_of c38_1.eq_1) := wp_of c38_1.eq_1
@[go_sem] theorem c38_2_wp : type_of% (wp_of c38_2.eq_1) := wp_of c38_2.eq_1
@[go_sem] theorem c38_3_wp : type_of% (wp_of c38_3.eq_1) := wp_of c38_3.eq_1
@[go_sem] theorem c38_4_wp : type_of% (wp_of c38_4.eq_1) := wp_of c38_4.eq_1
@[go_sem] theorem c38_5_wp : type_of% (wp_of c38_5.eq_1) := wp_of c38_5.eq_1
@[go_sem] theorem c38_6_wp : type_of% (wp_of c38_6.eq_1) := wp_of c38_6.eq_1
@[go_sem] theorem c38_7_wp : type_of% (wp_of c38_7.eq_1) := wp_of c38_7.eq_1
@[go_sem] theorem c38_8_wp : type_of% (wp_of c38_8.eq_1) := wp_of c38_8.eq_1
@[go_sem] theorem c38_9_wp : type_of% (wp_of c38_9.eq_1) := wp_of c38_9.eq_1
@[go_sem] theorem c38_10_wp : type_of% (wp_of c38_10.eq_1) := wp_of c38_10.eq_1
@[go_sem] theorem c38_11_wp : type_of% (wp_of c38_11.eq_1) := wp_of c38_11.eq_1
@[go_sem] theorem c38_12_wp : type_of% (wp_of c38_12.eq_1) := wp_of c38_12.eq_1
@[go_sem] theorem c38_13_wp : type_of% (wp_of c38_13.eq_1) := wp_of c38_13.eq_1
@[go_sem] theorem c38_14_wp : type_of% (wp_of c38_14.eq_1) := wp_of c38_14.eq_1
@[go_sem] theorem c38_15_wp : type_of% (wp_of c38_15.eq_1) := wp_of c38_15.eq_1
@[go_sem] theorem c38_16_wp : type_of% (wp_of c38_16.eq_1) := wp_of c38_16.eq_1
@[go_sem] theorem c38_17_wp : type_of% (wp_of c38_17.eq_1) := wp_of c38_17.eq_1
@[go_sem] theorem c38_18_wp : type_of% (wp_of c38_18.eq_1) := wp_of c38_18.eq_1
@[go_sem] theorem c38_19_wp : type_of% (wp_of c38_19.eq_1) := wp_of c38_19.eq_1
@[go_sem] theorem c38_20_wp : type_of% (wp_of c38_20.eq_1) := wp_of c38_20.eq_1
@[go_sem] theorem c38_21_wp : type_of% (wp_of c38_21.eq_1) := wp_of c38_21.eq_1
@[go_sem] theorem c38_22_wp : type_of% (wp_of c38_22.eq_1) := wp_of c38_22.eq_1
@[go_sem] theorem c38_23_wp : type_of% (wp_of c38_23.eq_1) := wp_of c38_23.eq_1
@[go_sem] theorem c38_24_wp : type_of% (wp_of c38_24.eq_1) := wp_of c38_24.eq_1
@[go_sem] theorem c38_25_wp : type_of% (wp_of c38_25.eq_1) := wp_of c38_25.eq_1
@[go_sem] theorem c38_26_wp : type_of% (wp_of c38_26.eq_1) := wp_of c38_26.eq_1
@[go_sem] theorem c38_27_wp : type_of% (wp_of c38_27.eq_1) := wp_of c38_27.eq_1
@[go_sem] theorem c38_28_wp : type_of% (wp_of c38_28.eq_1) := wp_of c38_28.eq_1
def c38 : AFn := ⟨42, [.t 4, .t 5], c38_28⟩
set_option maxRecDepth 100000 in
theorem c38_ok : compF Tryd.prog Tryd.f38 = some c38 := by kernel_rfl
theorem a38 {args : List AV} {σ : ASt} {R : AV → ASt → Prop} (hl : args.length ≤ 42) (h : c38_28.wp Tryd.prog (RetQ [.t 4, .t 5] R) (init args) σ) : ACalls Tryd.prog 38 args σ R := acalls_of Tryd.func38 c38_ok hl h

/-! 43: tabular/deci.Mod -/
def c43_0 : ACode := .ops [
    ⟨(some 4), none, .q (.mv (.v (.int .i64 0))), []⟩,
    ⟨(some 5), none, .q (.mv (.v (.bool false))), []⟩]
def c43_1 : ACode := .ops [
    ⟨(some 7), none, .q (.mv (.t 1)), []⟩,
    ⟨(some 8), none, .q (.bin .eql (.t 7) (.v (.int .i64 0))), []⟩]
def c43_2 : ACode := .ops [
    ⟨(some 4), none, .q (.mv (.v (.int .i64 0))), []⟩,
    ⟨(some 5), none, .q (.mv (.v (.bool false))), []⟩]
def c43_3 : ACode := .seq c43_2 .ret
def c43_4 : ACode := .cond (.t 8) c43_3 .skip
def c43_5 : ACode := .seq c43_1 c43_4
def c43_6 : ACode := .ops [
    ⟨(some 9), none, .q (.mv (.t 0)), []⟩,
    ⟨(some 10), none, .q (.mv (.t 1)), []⟩,
    ⟨(some 11), none, .q (.bin .rem (.t 9) (.t 10)), []⟩,
    ⟨(some 6), none, .q (.mv (.t 11)), []⟩]
def c43_7 : ACode := .ops [
    ⟨(some 12), none, .q (.mv (.t 6)), []⟩,
    ⟨(some 13), none, .q (.bin .neq (.t 12) (.v (.int .i64 0))), []⟩,
    ⟨(some 14), none, .q (.mv (.t 13)), []⟩,
    ⟨(some 15), (some (14, true)), .q (.mv (.t 6)), []⟩,
    ⟨(some 16), (some (14, true)), .q (.bin .lss (.t 15) (.v (.int .i64 0))), []⟩,
    ⟨(some 17), (some (14, true)), .q (.mv (.t 1)), []⟩,
    ⟨(some 18), (some (14, true)), .q (.bin .lss (.t 17) (.v (.int .i64 0))), []⟩,
    ⟨(some 19), (some (14, true)), .q (.eq .b true (.t 16) (.t 18)), []⟩,
    ⟨(some 20), none, .q (.pick (.t 14) (.t 19) (.v (.bool false))), []⟩]
def c43_8 : ACode := .ops [
    ⟨(some 21), none, .q (.mv (.t 6)), []⟩,
    ⟨(some 22), none, .q (.mv (.t 1)), []⟩,
    ⟨(some 23), none, .q (.bin .add (.t 21) (.t 22)), []⟩,
    ⟨(some 6), none, .q (.mv (.t 23)), []⟩]
def c43_9 : ACode := .cond (.t 20) c43_8 .skip
def c43_10 : ACode := .seq c43_7 c43_9
def c43_11 : ACode := .ops [
    ⟨(some 24), none, .q (.mv (.t 6)), []⟩,
    ⟨(some 4), none, .q (.mv (.t 24)), []⟩,
    ⟨(some 5), none, .q (.mv (.v (.bool true))), []⟩]
def c43_12 : ACode := .seq c43_11 .ret
def c43_13 : ACode := .seq c43_10 c43_12
def c43_14 : ACode := .seq c43_6 c43_13
def c43_15 : ACode := .seq c43_5 c43_14
def c43_16 : ACode := .seq c43_0 c43_15
@[go_sem] theorem c43_0_wp : type_of% (wp_of c43_0.eq_1) := wp_of c43_0.eq_1
@[go_sem] theorem c43_1_wp : type_of% (wp_of c43_1.eq_1) := wp_of c43_1.eq_1
@[go_sem] theorem c43_2_wp : type_of% (wp_of c43_2.eq_1) := wp_of c43_2.eq_1
@[go_sem] theorem c43_3_wp : type_of% (wp_of c43_3.eq_1) := wp_of c43_3.eq_1
@[go_sem] theorem c43_4_wp : type_of% (wp_of c43_4.eq_1) := wp_of c43_4.eq_1
@[go_sem] theorem c43_5_wp : type_of% (wp_of c43_5.eq_1) := wp_of c43_5.eq_1
@[go_sem] theorem c43_6_wp : type_of% (wp_of c43_6.eq_1) := wp_of c43_6.eq_1
@[go_sem] theorem c43_7_wp : type_of% (wp_of c43_7.eq_1) := wp_of c43_7.eq_1
@[go_sem] theorem c43_8_wp : type_of% (wp_of c43_8.eq_1) := wp_of c43_8.eq_1
@[go_sem] theorem c43_9_wp : type_of% (wp_of c43_9.eq_1) := wp_of c43_9.eq_1
@[go_sem] theorem c43_10_wp : type_of% (wp_of c43_10.eq_1) := wp_of c43_10.eq_1
@[go_sem] theorem c43_11_wp : type_of% (wp_of c43_11.eq_1) := wp_of c43_11.eq_1
@[go_sem] theorem c43_12_wp : type_of% (wp_of c43_12.eq_1) := wp_of c43_12.eq_1
@[go_sem] theorem c43_13_wp : type_of% (wp_of c43_13.eq_1) := wp_of c43_13.eq_1
@[go_sem] theorem c43_14_wp : type_of% (wp_of c43_14.eq_1) := wp_of c43_14.eq_1
@[go_sem] theorem c43_15_wp : type_of% (wp_of c43_15.eq_1) := wp_of c43_15.eq_1
@[go_sem] theorem c43_16_wp : type_of% (wp_of c43_16.eq_1) := wp_of c43_16.eq_1
def c43 : AFn := ⟨25, [.t 4, .t 5], c43_16⟩
set_option maxRecDepth 100000 in
theorem c43_ok : compF Tryd.prog Tryd.f43 = some c43 := by kernel_rfl
theorem a43 {args : List AV} {σ : ASt} {R : AV → ASt → Prop} (hl : args.length ≤ 25) (h : c43_16.wp Tryd.prog (RetQ [.t 4, .t 5] R) (init args) σ) : ACalls Tryd.prog 43 args σ R := acalls_of Tryd.func43 c43_ok hl h

/-! 46: tabular/deci.Sqrt -/
def c46_0 : ACode := .ops [
    ⟨(some 2), none, .q (.mv (.v (.int .i64 0))), []⟩,
    ⟨(some 3), none, .q (.mv (.v (.bool false))), []⟩]
def c46_1 : ACode := .ops [
    ⟨(some 11), none, .q (.mv (.t 0)), []⟩,
    ⟨(some 12), none, .q (.bin .lss (.t 11) (.v (.int .i64 0))), []⟩]
def c46_2 : ACode := .ops [
    ⟨(some 2), none, .q (.mv (.v (.int .i64 0))), []⟩,
    ⟨(some 3), none, .q (.mv (.v (.bool false))), []⟩]
def c46_3 : ACode := .seq c46_2 .ret
def c46_4 : ACode := .cond (.t 12) c46_3 .skip
def c46_5 : ACode := .seq c46_1 c46_4
def c46_6 : ACode := .ops [
    ⟨(some 14), none, .q (.mv (.t 0)), []⟩,
    ⟨(some 15), none, .q (.conv .u64 (.t 14)), []⟩,
    ⟨(some 16), none, .e (.call 73 [(.t 15), (.v (.int .u64 10000))]), []⟩,
    ⟨(some 13), none, .q (.mv (.t 16)), []⟩,
    ⟨(some 17), none, .q (.ext 0 (.t 13)), []⟩,
    ⟨(some 18), none, .q (.ext 1 (.t 13)), []⟩,
    ⟨(some 4), none, .q (.mv (.t 17)), []⟩,
    ⟨(some 5), none, .q (.mv (.t 18)), []⟩]
def c46_7 : ACode := .ops [
    ⟨(some 6), none, .q (.mv (.v (.int .u64 0))), []⟩]
def c46_8 : ACode := .ops [
    ⟨(some 7), none, .q (.mv (.v (.int .u64 137438953472))), []⟩]
def c46_9 : ACode := .ops [
    ⟨(some 19), none, .q (.mv (.t 7)), []⟩,
    ⟨(some 20), none, .q (.bin .gtr (.t 19) (.v (.int .u64 0))), []⟩]
def c46_10 : ACode := .cond (.t 20) .skip (.exit 0)
def c46_11 : ACode := .seq c46_9 c46_10
def c46_12 : ACode := .ops [
    ⟨(some 23), none, .q (.mv (.t 6)), []⟩,
    ⟨(some 24), none, .q (.mv (.t 7)), []⟩,
    ⟨(some 25), none, .q (.bin .or (.t 23) (.t 24)), []⟩,
    ⟨(some 8), none, .q (.mv (.t 25)), []⟩]
def c46_13 : ACode := .ops [
    ⟨(some 27), none, .q (.mv (.t 8)), []⟩,
    ⟨(some 28), none, .q (.mv (.t 8)), []⟩,
    ⟨(some 29), none, .e (.call 73 [(.t 27), (.t 28)]), []⟩,
    ⟨(some 26), none, .q (.mv (.t 29)), []⟩,
    ⟨(some 30), none, .q (.ext 0 (.t 26)), []⟩,
    ⟨(some 31), none, .q (.ext 1 (.t 26)), []⟩,
    ⟨(some 9), none, .q (.mv (.t 30)), []⟩,
    ⟨(some 10), none, .q (.mv (.t 31)), []⟩]
def c46_14 : ACode := .ops [
    ⟨(some 32), none, .q (.mv (.t 9)), []⟩,
    ⟨(some 33), none, .q (.mv (.t 4)), []⟩,
    ⟨(some 34), none, .q (.bin .lss (.t 32) (.t 33)), []⟩,
    ⟨(some 35), none, .q (.mv (.t 34)), []⟩,
    ⟨(some 36), (some (35, false)), .q (.mv (.t 9)), []⟩,
    ⟨(some 37), (some (35, false)), .q (.mv (.t 4)), []⟩,
    ⟨(some 38), (some (35, false)), .q (.bin .eql (.t 36) (.t 37)), []⟩,
    ⟨(some 39), (some (35, false)), .q (.mv (.t 38)), []⟩,
    ⟨(some 40), (some (39, true)), .q (.mv (.t 10)), []⟩,
    ⟨(some 41), (some (39, true)), .q (.mv (.t 5)), []⟩,
    ⟨(some 42), (some (39, true)), .q (.bin .leq (.t 40) (.t 41)), []⟩,
    ⟨(some 43), (some (35, false)), .q (.pick (.t 39) (.t 42) (.v (.bool false))), []⟩,
    ⟨(some 44), none, .q (.pick (.t 35) (.v (.bool true)) (.t 43)), []⟩]
def c46_15 : ACode := .ops [
    ⟨(some 45), none, .q (.mv (.t 8)), []⟩,
    ⟨(some 6), none, .q (.mv (.t 45)), []⟩]
def c46_16 : ACode := .cond (.t 44) c46_15 .skip
def c46_17 : ACode := .seq c46_14 c46_16
def c46_18 : ACode := .seq c46_13 c46_17
def c46_19 : ACode := .seq c46_12 c46_18
def c46_20 : ACode := .block 1 c46_19
def c46_21 : ACode := .ops [
    ⟨(some 21), none, .q (.mv (.t 7)), []⟩,
    ⟨(some 22), none, .q (.bin .shr (.t 21) (.v (.int .u64 1))), []⟩,
    ⟨(some 7), none, .q (.mv (.t 22)), []⟩]
def c46_22 : ACode := .seq c46_20 c46_21
def c46_23 : ACode := .seq c46_11 c46_22
def c46_24 : ACode := .loop c46_23
def c46_25 : ACode := .block 0 c46_24
def c46_26 : ACode := .seq c46_8 c46_25
def c46_27 : ACode := .ops [
    ⟨(some 46), none, .q (.mv (.t 6)), []⟩,
    ⟨(some 47), none, .q (.conv .i64 (.t 46)), []⟩,
    ⟨(some 2), none, .q (.mv (.t 47)), []⟩,
    ⟨(some 3), none, .q (.mv (.v (.bool true))), []⟩]
def c46_28 : ACode := .seq c46_27 .ret
def c46_29 : ACode := .seq c46_26 c46_28
def c46_30 : ACode := .seq c46_7 c46_29
def c46_31 : ACode := .seq c46_6 c46_30
def c46_32 : ACode := .seq c46_5 c46_31
def c46_33 : ACode := .seq c46_0 c46_32
@[go_sem] theorem c46_0_wp : type_of% (wp_of c46_0.eq_1) := wp_of c46_0.eq_1
@[go_sem] theorem c46_1_wp : type_of% (wp_of c46_1.eq_1) := wp_of c46_1.eq_1
@[go_sem] theorem c46_2_wp : type_of% (wp_of c46_2.eq_1) := wp_of c46_2.eq_1
@[go_sem] theorem c46_3_wp : type_of% (wp_of c46_3.eq_1) := wp_of c46_3.eq_1
@[go_sem] theorem c46_4_wp : type_of% (wp_of c46_4.eq_1) := wp_of c46_4.eq_1
@[go_sem] theorem c46_5_wp : type_of% (wp_of c46_5.eq_1) := wp_of c46_5.eq_1
@[go_sem] theorem c46_6_wp : type_of% (wp_of c46_6.eq_1) := wp_of c46_6.eq_1
@[go_sem] theorem c46_7_wp : type_of% (wp_of c46_7.eq_1) := wp_of c46_7.eq_1
@[go_sem] theorem c46_8_wp : type_of% (wp_of c46_8.eq_1) := wp_of c46_8.eq_1
@[go_sem] theorem c46_9_wp : type_of% (wp_of c46_9.eq_1) := wp_of c46_9.eq_1
@[go_sem] theorem c46_10_wp : type_of% (wp_of c46_10.eq_1) := wp_of c46_10.eq_1
@[go_sem] theorem c46_11_wp : type_of% (wp_of c46_11.eq_1) := wp_of c46_11.eq_1
@[go_sem] theorem c46_12_wp : type_of% (wp_of c46_12.eq_1) := wp_of c46_12.eq_1
@[go_sem] theorem c46_13_wp : type_of% (wp_of c46_13.eq_1) := wp_of c46_13.eq_1
@[go_sem] theorem c46_14_wp : type_of% (wp_of c46_14.eq_1) := wp_of c46_14.eq_1
@[go_sem] theorem c46_15_wp : type_of% (wp_of c46_15.eq_1) := wp_of c46_15.eq_1
@[go_sem] theorem c46_16_wp : type_of% (wp_of c46_16.eq_1) := wp_of c46_16.eq_1
@[go_sem] theorem c46_17_wp : type_of% (wp_of c46_17.eq_1) := wp_of c46_17.eq_1
@[go_sem] theorem c46_18_wp : type_of% (wp_of c46_18.eq_1) := wp_of c46_18.eq_1
@[go_sem] theorem c46_19_wp : type_of% (wp_of c46_19.eq_1) := wp_of c46_19.eq_1
@[go_sem] theorem c46_20_wp : type_of% (wp_of c46_20.eq_1) := wp_of c46_20.eq_1
@[go_sem] theorem c46_21_wp : type_of% (wp_of c46_21.eq_1) := wp_of c46_21.eq_1
@[go_sem] theorem c46_22_wp : type_of% (wp_of c46_22.eq_1) := wp_of c46_22.eq_1
@[go_sem] theorem c46_23_wp : type_of% (wp_of c46_23.eq_1) := wp_of c46_23.eq_1
@[go_sem] theorem c46_24_wp : type_of% (wp_of c46_24.eq_1) := wp_of c46_24.eq_1
@[go_sem] theorem c46_25_wp : type_of% (wp_of c46_25.eq_1) := wp_of c46_25.eq_1
@[go_sem] theorem c46_26_wp : type_of% (wp_of c46_26.eq_1) := wp_of c46_26.eq_1
@[go_sem] theorem c46_27_wp : type_of% (wp_of c46_27.eq_1) := wp_of c46_27.eq_1
@[go_sem] theorem c46_28_wp : type_of% (wp_of c46_28.eq_1) := wp_of c46_28.eq_1
@[go_sem] theorem c46_29_wp : type_of% (wp_of c46_29.eq_1) := wp_of c46_29.eq_1
@[go_sem] theorem c46_30_wp : type_of% (wp_of c46_30.eq_1) := wp_of c46_30.eq_1
@[go_sem] theorem c46_31_wp : type_of% (wp_of c46_31.eq_1) := wp_of c46_31.eq_1
@[go_sem] theorem c46_32_wp : type_of% (wp_of c46_32.eq_1) := wp_of c46_32.eq_1
@[go_sem] theorem c46_33_wp : type_of% (wp_of c46_33.eq_1) := wp_of c46_33.eq_1
def c46 : AFn := ⟨48, [.t 2, .t 3], c46_33⟩
set_option maxRecDepth 100000 in
theorem c46_ok : compF Tryd.prog Tryd.f46 = some c46 := by kernel_rfl
theorem a46 {args : List AV} {σ : ASt} {R : AV → ASt → Prop} (hl : args.length ≤ 48) (h : c46_33.wp Tryd.prog (RetQ [.t 2, .t 3] R) (init args) σ) : ACalls Tryd.prog 46 args σ R := acalls_of Tryd.func46 c46_ok hl h

/-! 62: strings.Cut -/
def c62_0 : ACode := .ops [
    ⟨(some 4), none, .q (.mv (.v (.str []))), []⟩,
    ⟨(some 5), none, .q (.mv (.v (.str []))), []⟩,
    ⟨(some 6), none, .q (.mv (.v (.bool false))), []⟩]
def c62_1 : ACode := .ops [
    ⟨(some 7), none, .q (.mv (.t 0)), []⟩,
    ⟨(some 8), none, .q (.mv (.t 1)), []⟩,
    ⟨(some 9), none, .e (.call 87 [(.t 7), (.t 8)]), []⟩,
    ⟨(some 10), none, .q (.ext 0 (.t 9)), []⟩,
    ⟨(some 11), none, .q (.ext 1 (.t 9)), []⟩,
    ⟨(some 12), none, .q (.ext 2 (.t 9)), []⟩,
    ⟨(some 4), none, .q (.mv (.t 10)), []⟩,
    ⟨(some 5), none, .q (.mv (.t 11)), []⟩,
    ⟨(some 6), none, .q (.mv (.t 12)), []⟩]
def c62_2 : ACode := .seq c62_1 .ret
def c62_3 : ACode := .seq c62_0 c62_2
@[go_sem] theorem c62_0_wp : type_of% (wp_of c62_0.eq_1) := wp_of c62_0.eq_1
@[go_sem] theorem c62_1_wp : type_of% (wp_of c62_1.eq_1) := wp_of c62_1.eq_1
@[go_sem] theorem c62_2_wp : type_of% (wp_of c62_2.eq_1) := wp_of c62_2.eq_1
@[go_sem] theorem c62_3_wp : type_of% (wp_of c62_3.eq_1) := wp_of c62_3.eq_1
def c62 : AFn := ⟨13, [.t 4, .t 5, .t 6], c62_3⟩
set_option maxRecDepth 100000 in
theorem c62_ok : compF Tryd.prog Tryd.f62 = some c62 := by kernel_rfl
theorem a62 {args : List AV} {σ : ASt} {R : AV → ASt → Prop} (hl : args.length ≤ 13) (h : c62_3.wp Tryd.prog (RetQ [.t 4, .t 5, .t 6] R) (init args) σ) : ACalls Tryd.prog 62 args σ R := acalls_of Tryd.func62 c62_ok hl h

/-! 63: tabular/deci.made -/
def c63_0 : ACode := .ops [
    ⟨(some 6), none, .q (.mv (.v (.int .i64 0))), []⟩,
    ⟨(some 7), none, .q (.mv (.v (.bool false))), []⟩]
def c63_1 : ACode := .ops [
    ⟨(some 8), none, .q (.mv (.t 1)), []⟩,
    ⟨(some 9), none, .q (.bin .gtr (.t 8) (.v (.int .u64 0))), []⟩,
    ⟨(some 10), none, .q (.mv (.t 9)), []⟩,
    ⟨(some 11), (some (10, false)), .q (.mv (.t 2)), []⟩,
    ⟨(some 12), (some (10, false)), .q (.bin .gtr (.t 11) (.v (.int .u64 999999999999999999))), []⟩,
    ⟨(some 13), none, .q (.pick (.t 10) (.v (.bool true)) (.t 12)), []⟩]
def c63_2 : ACode := .ops [
    ⟨(some 6), none, .q (.mv (.v (.int .i64 0))), []⟩,
    ⟨(some 7), none, .q (.mv (.v (.bool false))), []⟩]
def c63_3 : ACode := .seq c63_2 .ret
def c63_4 : ACode := .cond (.t 13) c63_3 .skip
def c63_5 : ACode := .seq c63_1 c63_4
def c63_6 : ACode := .ops [
    ⟨(some 14), none, .q (.mv (.t 0)), []⟩]
def c63_7 : ACode := .ops [
    ⟨(some 15), none, .q (.mv (.t 2)), []⟩,
    ⟨(some 16), none, .q (.conv .i64 (.t 15)), []⟩,
    ⟨(some 17), none, .q (.un .neg (.t 16)), []⟩,
    ⟨(some 6), none, .q (.mv (.t 17)), []⟩,
    ⟨(some 7), none, .q (.mv (.v (.bool true))), []⟩]
def c63_8 : ACode := .seq c63_7 .ret
def c63_9 : ACode := .cond (.t 14) c63_8 .skip
def c63_10 : ACode := .seq c63_6 c63_9
def c63_11 : ACode := .ops [
    ⟨(some 18), none, .q (.mv (.t 2)), []⟩,
    ⟨(some 19), none, .q (.conv .i64 (.t 18)), []⟩,
    ⟨(some 6), none, .q (.mv (.t 19)), []⟩,
    ⟨(some 7), none, .q (.mv (.v (.bool true))), []⟩]
def c63_12 : ACode := .seq c63_11 .ret
def c63_13 : ACode := .seq c63_10 c63_12
def c63_14 : ACode := .seq c63_5 c63_13
def c63_15 : ACode := .seq c63_0 c63_14
@[go_sem] theorem c63_0_wp : type_of% (wp_of c63_0.eq_1) := wp_of c63_0.eq_1
@[go_sem] theorem c63_1_wp : type_of% (wp_of c63_1.eq_1) := wp_of c63_1.eq_1
@[go_sem] theorem c63_2_wp : type_of% (wp_of c63_2.eq_1) := wp_of c63_2.eq_1
@[go_sem] theorem c63_3_wp : type_of% (wp_of c63_3.eq_1) := wp_of c63_3.eq_1
@[go_sem] theorem c63_4_wp : type_of% (wp_of c63_4.eq_1) := wp_of c63_4.eq_1
@[go_sem] theorem c63_5_wp : type_of% (wp_of c63_5.eq_1) := wp_of c63_5.eq_1
@[go_sem] theorem c63_6_wp : type_of% (wp_of c63_6.eq_1) := wp_of c63_6.eq_1
@[go_sem] theorem c63_7_wp : type_of% (wp_of c63_7.eq_1) := wp_of c63_7.eq_1
@[go_sem] theorem c63_8_wp : type_of% (wp_of c63_8.eq_1) := wp_of c63_8.eq_1
@[go_sem] theorem c63_9_wp : type_of% (wp_of c63_9.eq_1) := wp_of c63_9.eq_1
@[go_sem] theorem c63_10_wp : type_of% (wp_of c63_10.eq_1) := wp_of c63_10.eq_1
@[go_sem] theorem c63_11_wp : type_of% (wp_of c63_11.eq_1) := wp_of c63_11.eq_1
@[go_sem] theorem c63_12_wp : type_of% (wp_of c63_12.eq_1) := wp_of c63_12.eq_1
@[go_sem] theorem c63_13_wp : type_of% (wp_of c63_13.eq_1) := wp_of c63_13.eq_1
@[go_sem] theorem c63_14_wp : type_of% (wp_of c63_14.eq_1) := wp_of c63_14.eq_1
@[go_sem] theorem c63_15_wp : type_of% (wp_of c63_15.eq_1) := wp_of c63_15.eq_1
def c63 : AFn := ⟨20, [.t 6, .t 7], c63_15⟩
set_option maxRecDepth 100000 in
theorem c63_ok : compF Tryd.prog Tryd.f63 = some c63 := by kernel_rfl
theorem a63 {args : List AV} {σ : ASt} {R : AV → ASt → Prop} (hl : args.length ≤ 20) (h : c63_15.wp Tryd.prog (RetQ [.t 6, .t 7] R) (init args) σ) : ACalls Tryd.prog 63 args σ R := acalls_of Tryd.func63 c63_ok hl h

/-! 65: tabular/deci.Sub -/
def c65_0 : ACode := .ops [
    ⟨(some 4), none, .q (.mv (.v (.int .i64 0))), []⟩,
    ⟨(some 5), none, .q (.mv (.v (.bool false))), []⟩]
def c65_1 : ACode := .ops [
    ⟨(some 6), none, .q (.mv (.t 0)), []⟩,
    ⟨(some 7), none, .q (.mv (.t 1)), []⟩,
    ⟨(some 8), none, .q (.bin .sub (.t 6) (.t 7)), []⟩,
    ⟨(some 9), none, .q (.bin .lss (.t 8) (.v (.int .i64 0))), []⟩,
    ⟨(some 10), none, .q (.mv (.t 0)), []⟩,
    ⟨(some 11), none, .q (.mv (.t 1)), []⟩,
    ⟨(some 12), none, .q (.bin .sub (.t 10) (.t 11)), []⟩,
    ⟨(some 13), none, .e (.call 67 [(.t 12)]), []⟩,
    ⟨(some 14), none, .e (.call 63 [(.t 9), (.v (.int .u64 0)), (.t 13)]), []⟩,
    ⟨(some 15), none, .q (.ext 0 (.t 14)), []⟩,
    ⟨(some 16), none, .q (.ext 1 (.t 14)), []⟩,
    ⟨(some 4), none, .q (.mv (.t 15)), []⟩,
    ⟨(some 5), none, .q (.mv (.t 16)), []⟩]
def c65_2 : ACode := .seq c65_1 .ret
def c65_3 : ACode := .seq c65_0 c65_2
@[go_sem] theorem c65_0_wp : type_of% (wp_of c65_0.eq_1) := wp_of c65_0.eq_1
@[go_sem] theorem c65_1_wp : type_of% (wp_of c65_1.eq_1) := wp_of c65_1.eq_1
@[go_sem] theorem c65_2_wp : type_of% (wp_of c65_2.eq_1) := wp_of c65_2.eq_1
@[go_sem] theorem c65_3_wp : type_of% (wp_of c65_3.eq_1) := wp_of c65_3.eq_1
def c65 : AFn := ⟨17, [.t 4, .t 5], c65_3⟩
set_option maxRecDepth 100000 in
theorem c65_ok : compF Tryd.prog Tryd.f65 = some c65 := by kernel_rfl
theorem a65 {args : List AV} {σ : ASt} {R : AV → ASt → Prop} (hl : args.length ≤ 17) (h : c65_3.wp Tryd.prog (RetQ [.t 4, .t 5] R) (init args) σ) : ACalls Tryd.prog 65 args σ R := acalls_of Tryd.func65 c65_ok hl h

/-! 66: tabular/deci.unit -/
def c66_0 : ACode := .ops [
    ⟨(some 2), none, .q (.mv (.v (.int .u64 0))), []⟩,
    ⟨(some 3), none, .q (.mv (.v (.bool false))), []⟩]
def c66_1 : ACode := .ops [
    ⟨(some 4), none, .q (.mv (.t 0)), []⟩,
    ⟨(some 5), none, .q (.bin .geq (.t 4) (.v (.int .i64 4))), []⟩,
    ⟨(some 6), none, .q (.mv (.t 5)), []⟩,
    ⟨(some 7), (some (6, false)), .q (.mv (.t 0)), []⟩,
    ⟨(some 8), (some (6, false)), .q (.bin .lss (.t 7) (.v (.int .i64 (-14)))), []⟩,
    ⟨(some 9), none, .q (.pick (.t 6) (.v (.bool true)) (.t 8)), []⟩]
def c66_2 : ACode := .ops [
    ⟨(some 2), none, .q (.mv (.v (.int .u64 0))), []⟩,
    ⟨(some 3), none, .q (.mv (.v (.bool false))), []⟩]
def c66_3 : ACode := .seq c66_2 .ret
def c66_4 : ACode := .cond (.t 9) c66_3 .skip
def c66_5 : ACode := .seq c66_1 c66_4
def c66_6 : ACode := .ops [
    ⟨(some 10), none, .q (.ld none (.v (.ptr 0 0))), []⟩,
    ⟨(some 11), none, .q (.mv (.t 0)), []⟩,
    ⟨(some 12), none, .q (.bin .sub (.v (.int .i64 4)) (.t 11)), []⟩,
    ⟨(some 13), none, .q (.ia 1 (.t 10) (.t 12)), []⟩,
    ⟨(some 14), none, .q (.ld none (.t 13)), []⟩,
    ⟨(some 2), none, .q (.mv (.t 14)), []⟩,
    ⟨(some 3), none, .q (.mv (.v (.bool true))), []⟩]
def c66_7 : ACode := .seq c66_6 .ret
def c66_8 : ACode := .seq c66_5 c66_7
def c66_9 : ACode := .seq c66_0 c66_8
@[go_sem] theorem c66_0_wp : type_of% (wp_of c66_0.eq_1) := wp_of c66_0.eq_1
@[go_sem] theorem c66_1_wp : type_of% (wp_of c66_1.eq_1) := wp_of c66_1.eq_1
@[go_sem] theorem c66_2_wp : type_of% (wp_of c66_2.eq_1) := wp_of c66_2.eq_1
@[go_sem] theorem c66_3_wp : type_of% (wp_of c66_3.eq_1) := wp_of c66_3.eq_1
@[go_sem] theorem c66_4_wp : type_of% (wp_of c66_4.eq_1) := wp_of c66_4.eq_1
@[go_sem] theorem c66_5_wp : type_of% (wp_of c66_5.eq_1) := wp_of c66_5.eq_1
@[go_sem] theorem c66_6_wp : type_of% (wp_of c66_6.eq_1) := wp_of c66_6.eq_1
@[go_sem] theorem c66_7_wp : type_of% (wp_of c66_7.eq_1) := wp_of c66_7.eq_1
@[go_sem] theorem c66_8_wp : type_of% (wp_of c66_8.eq_1) := wp_of c66_8.eq_1
@[go_sem] theorem c66_9_wp : type_of% (wp_of c66_9.eq_1) := wp_of c66_9.eq_1
def c66 : AFn := ⟨15, [.t 2, .t 3], c66_9⟩
set_option maxRecDepth 100000 in
theorem c66_ok : compF Tryd.prog Tryd.f66 = some c66 := by kernel_rfl
theorem a66 {args : List AV} {σ : ASt} {R : AV → ASt → Prop} (hl : args.length ≤ 15) (h : c66_9.wp Tryd.prog (RetQ [.t 2, .t 3] R) (init args) σ) : ACalls Tryd.prog 66 args σ R := acalls_of Tryd.func66 c66_ok hl h

/-! 67: tabular/deci.size -/
def c67_0 : ACode := .ops [
    ⟨(some 2), none, .q (.mv (.v (.int .u64 0))), []⟩]
def c67_1 : ACode := .ops [
    ⟨(some 3), none, .q (.mv (.t 0)), []⟩,
    ⟨(some 4), none, .q (.bin .lss (.t 3) (.v (.int .i64 0))), []⟩]
def c67_2 : ACode := .ops [
    ⟨(some 5), none, .q (.mv (.t 0)), []⟩,
    ⟨(some 6), none, .q (.un .neg (.t 5)), []⟩,
    ⟨(some 7), none, .q (.conv .u64 (.t 6)), []⟩,
    ⟨(some 2), none, .q (.mv (.t 7)), []⟩]
def c67_3 : ACode := .seq c67_2 .ret
def c67_4 : ACode := .cond (.t 4) c67_3 .skip
def c67_5 : ACode := .seq c67_1 c67_4
def c67_6 : ACode := .ops [
    ⟨(some 8), none, .q (.mv (.t 0)), []⟩,
    ⟨(some 9), none, .q (.conv .u64 (.t 8)), []⟩,
    ⟨(some 2), none, .q (.mv (.t 9)), []⟩]
def c67_7 : ACode := .seq c67_6 .ret
def c67_8 : ACode := .seq c67_5 c67_7
def c67_9 : ACode := .seq c67_0 c67_8
@[go_sem] theorem c67_0_wp : type_of% (wp_of c67_0.eq_1) := wp_of c67_0.eq_1
@[go_sem] theorem c67_1_wp : type_of% (wp_of c67_1.eq_1) := wp_of c67_1.eq_1
@[go_sem] theorem c67_2_wp : type_of% (wp_of c67_2.eq_1) := wp_of c67_2.eq_1
@[go_sem] theorem c67_3_wp : type_of% (wp_of c67_3.eq_1) := wp_of c67_3.eq_1
@[go_sem] theorem c67_4_wp : type_of% (wp_of c67_4.eq_1) := wp_of c67_4.eq_1
@[go_sem] theorem c67_5_wp : type_of% (wp_of c67_5.eq_1) := wp_of c67_5.eq_1
@[go_sem] theorem c67_6_wp : type_of% (wp_of c67_6.eq_1) := wp_of c67_6.eq_1
@[go_sem] theorem c67_7_wp : type_of% (wp_of c67_7.eq_1) := wp_of c67_7.eq_1
@[go_sem] theorem c67_8_wp : type_of% (wp_of c67_8.eq_1) := wp_of c67_8.eq_1
@[go_sem] theorem c67_9_wp : type_of% (wp_of c67_9.eq_1) := wp_of c67_9.eq_1
def c67 : AFn := ⟨10, [.t 2], c67_9⟩
set_option maxRecDepth 100000 in
theorem c67_ok : compF Tryd.prog Tryd.f67 = some c67 := by kernel_rfl
theorem a67 {args : List AV} {σ : ASt} {R : AV → ASt → Prop} (hl : args.length ≤ 10) (h : c67_9.wp Tryd.prog (RetQ [.t 2] R) (init args) σ) : ACalls Tryd.prog 67 args σ R := acalls_of Tryd.func67 c67_ok hl h

/-! 68: tabular/deci.Pow -/
def c68_0 : ACode := .ops [
    ⟨(some 4), none, .q (.mv (.v (.int .i64 0))), []⟩,
    ⟨(some 5), none, .q (.mv (.v (.bool false))), []⟩]
def c68_1 : ACode := .ops [
    ⟨(some 9), none, .q (.mv (.t 1)), []⟩,
    ⟨(some 10), none, .q (.bin .lss (.t 9) (.v (.int .i64 (-1000)))), []⟩,
    ⟨(some 11), none, .q (.mv (.t 10)), []⟩,
    ⟨(some 12), (some (11, false)), .q (.mv (.t 1)), []⟩,
    ⟨(some 13), (some (11, false)), .q (.bin .gtr (.t 12) (.v (.int .i64 1000))), []⟩,
    ⟨(some 14), none, .q (.pick (.t 11) (.v (.bool true)) (.t 13)), []⟩]
def c68_2 : ACode := .ops [
    ⟨(some 4), none, .q (.mv (.v (.int .i64 0))), []⟩,
    ⟨(some 5), none, .q (.mv (.v (.bool false))), []⟩]
def c68_3 : ACode := .seq c68_2 .ret
def c68_4 : ACode := .cond (.t 14) c68_3 .skip
def c68_5 : ACode := .seq c68_1 c68_4
def c68_6 : ACode := .ops [
    ⟨(some 6), none, .q (.mv (.v (.int .i64 10000))), []⟩,
    ⟨(some 7), none, .q (.mv (.v (.bool true))), []⟩]
def c68_7 : ACode := .ops [
    ⟨(some 8), none, .q (.mv (.v (.int .i64 0))), []⟩]
def c68_8 : ACode := .ops [
    ⟨(some 15), none, .q (.mv (.t 8)), []⟩,
    ⟨(some 16), none, .q (.mv (.t 1)), []⟩,
    ⟨(some 17), none, .q (.mv (.t 1)), []⟩,
    ⟨(some 18), none, .q (.un .neg (.t 17)), []⟩,
    ⟨(some 19), none, .q (.mnx true (.t 16) (.t 18)), []⟩,
    ⟨(some 20), none, .q (.bin .lss (.t 15) (.t 19)), []⟩,
    ⟨(some 21), none, .q (.mv (.t 20)), []⟩,
    ⟨(some 22), (some (21, true)), .q (.mv (.t 7)), []⟩,
    ⟨(some 23), none, .q (.pick (.t 21) (.t 22) (.v (.bool false))), []⟩]
def c68_9 : ACode := .cond (.t 23) .skip (.exit 0)
def c68_10 : ACode := .seq c68_8 c68_9
def c68_11 : ACode := .ops [
    ⟨(some 27), none, .q (.mv (.t 6)), []⟩,
    ⟨(some 28), none, .q (.mv (.t 0)), []⟩,
    ⟨(some 29), none, .e (.call 74 [(.t 27), (.t 28)]), []⟩,
    ⟨(some 26), none, .q (.mv (.t 29)), []⟩,
    ⟨(some 30), none, .q (.ext 0 (.t 26)), []⟩,
    ⟨(some 31), none, .q (.ext 1 (.t 26)), []⟩,
    ⟨(some 6), none, .q (.mv (.t 30)), []⟩,
    ⟨(some 7), none, .q (.mv (.t 31)), []⟩]
def c68_12 : ACode := .block 1 c68_11
def c68_13 : ACode := .ops [
    ⟨(some 24), none, .q (.mv (.t 8)), []⟩,
    ⟨(some 25), none, .q (.bin .add (.t 24) (.v (.int .i64 1))), []⟩,
    ⟨(some 8), none, .q (.mv (.t 25)), []⟩]
def c68_14 : ACode := .seq c68_12 c68_13
def c68_15 : ACode := .seq c68_10 c68_14
def c68_16 : ACode := .loop c68_15
def c68_17 : ACode := .block 0 c68_16
def c68_18 : ACode := .seq c68_7 c68_17
def c68_19 : ACode := .ops [
    ⟨(some 32), none, .q (.mv (.t 7)), []⟩,
    ⟨(some 33), none, .q (.mv (.t 32)), []⟩,
    ⟨(some 34), (some (33, true)), .q (.mv (.t 1)), []⟩,
    ⟨(some 35), (some (33, true)), .q (.bin .lss (.t 34) (.v (.int .i64 0))), []⟩,
    ⟨(some 36), none, .q (.pick (.t 33) (.t 35) (.v (.bool false))), []⟩]
def c68_20 : ACode := .ops [
    ⟨(some 37), none, .q (.mv (.t 6)), []⟩,
    ⟨(some 38), none, .e (.call 81 [(.v (.int .i64 10000)), (.t 37)]), []⟩,
    ⟨(some 39), none, .q (.ext 0 (.t 38)), []⟩,
    ⟨(some 40), none, .q (.ext 1 (.t 38)), []⟩,
    ⟨(some 4), none, .q (.mv (.t 39)), []⟩,
    ⟨(some 5), none, .q (.mv (.t 40)), []⟩]
def c68_21 : ACode := .seq c68_20 .ret
def c68_22 : ACode := .cond (.t 36) c68_21 .skip
def c68_23 : ACode := .seq c68_19 c68_22
def c68_24 : ACode := .ops [
    ⟨(some 41), none, .q (.mv (.t 6)), []⟩,
    ⟨(some 42), none, .q (.mv (.t 7)), []⟩,
    ⟨(some 4), none, .q (.mv (.t 41)), []⟩,
    ⟨(some 5), none, .q (.mv (.t 42)), []⟩]
def c68_25 : ACode := .seq c68_24 .ret
def c68_26 : ACode := .seq c68_23 c68_25
def c68_27 : ACode := .seq c68_18 c68_26
def c68_28 : ACode := .seq c68_6 c68_27
def c68_29 : ACode := .seq c68_5 c68_28
def c68_30 : ACode := .seq c68_0 c68_29
@[go_sem] theorem c68_0_wp : type_of% (wp_of c68_0.eq_1) := wp_of c68_0.eq_1
@[go_sem] theorem c68_1_wp : type_of% (wp_of c68_1.eq_1) := wp_of c68_1.eq_1
@[go_sem] theorem c68_2_wp : type_of% (wp_of c68_2.eq_1) := wp_of c68_2.eq_1
@[go_sem] theorem c68_3_wp : type_of% (wp_of c68_3.eq_1) := wp_of c68_3.eq_1
@[go_sem] theorem c68_4_wp : type_of% (wp_of c68_4.eq_1) := wp_of c68_4.eq_1
@[go_sem] theorem c68_5_wp : type_of% (wp_of c68_5.eq_1) := wp_of c68_5.eq_1
@[go_sem] theorem c68_6_wp : type_of% (wp_of c68_6.eq_1) := wp_of c68_6.eq_1
@[go_sem] theorem c68_7_wp : type_of% (wp_of c68_7.eq_1) := wp_of c68_7.eq_1
@[go_sem] theorem c68_8_wp : type_of% (wp_of c68_8.eq_1) := wp_of c68_8.eq_1
@[go_sem] theorem c68_9_wp : type_of% (wp_of c68_9.eq_1) := wp_of c68_9.eq_1
@[go_sem] theorem c68_10_wp : type_of% (wp_of c68_10.eq_1) := wp_of c68_10.eq_1
@[go_sem] theorem c68_11_wp : type_of% (wp_of c68_11.eq_1) := wp_of c68_11.eq_1
@[go_sem] theorem c68_12_wp : type_of% (wp_of c68_12.eq_1) := wp_of c68_12.eq_1
@[go_sem] theorem c68_13_wp : type_of% (wp_of c68_13.eq_1) := wp_of c68_13.eq_1
@[go_sem] theorem c68_14_wp : type_of% (wp_of c68_14.eq_1) := wp_of c68_14.eq_1
@[go_sem] theorem c68_15_wp : type_of% (wp_of c68_15.eq_1) := wp_of c68_15.eq_1
@[go_sem] theorem c68_16_wp : type_of% (wp_of c68_16.eq_1) := wp_of c68_16.eq_1
@[go_sem] theorem c68_17_wp : type_of% (wp_of c68_17.eq_1) := wp_of c68_17.eq_1
@[go_sem] theorem c68_18_wp : type_of% (wp_of c68_18.eq_1) := wp_of c68_18.eq_1
@[go_sem] theorem c68_19_wp : type_of% (wp_of c68_19.eq_1) := wp_of c68_19.eq_1
@[go_sem] theorem c68_20_wp : type_of% (wp_of c68_20.eq_1) := wp_of c68_20.eq_1
@[go_sem] theorem c68_21_wp : type_of% (wp_of c68_21.eq_1) := wp_of c68_21.eq_1
@[go_sem] theorem c68_22_wp : type_of% (wp_of c68_22.eq_1) := wp_of c68_22.eq_1
@[go_sem] theorem c68_23_wp : type_of% (wp_of c68_23.eq_1) := wp_of c68_23.eq_1
@[go_sem] theorem c68_24_wp : type_of% (wp_of c68_24.eq_1) := wp_of c68_24.eq_1
@[go_sem] theorem c68_25_wp : type_of% (wp_of c68_25.eq_1) := wp_of c68_25.eq_1
@[go_sem] theorem c68_26_wp : type_of% (wp_of c68_26.eq_1) := wp_of c68_26.eq_1
@[go_sem] theorem c68_27_wp : type_of% (wp_of c68_27.eq_1) := wp_of c68_27.eq_1
@[go_sem] theorem c68_28_wp : type_of% (wp_of c68_28.eq_1) := wp_of c68_28.eq_1
@[go_sem] theorem c68_29_wp : type_of% (wp_of c68_29.eq_1) := wp_of c68_29.eq_1
@[go_sem] theorem c68_30_wp : type_of% (wp_of c68_30.eq_1) := wp_of c68_30.eq_1
def c68 : AFn := ⟨43, [.t 4, .t 5], c68_30⟩
set_option maxRecDepth 100000 in
theorem c68_ok : compF Tryd.prog Tryd.f68 = some c68 := by kernel_rfl
theorem a68 {args : List AV} {σ : ASt} {R : AV → ASt → Prop} (hl : args.length ≤ 43) (h : c68_30.wp Tryd.prog (RetQ [.t 4, .t 5] R) (init args) σ) : ACalls Tryd.prog 68 args σ R := acalls_of Tryd.func68 c68_ok hl h

/-! 70: tabular/deci.Add -/
def c70_0 : ACode := .ops [
    ⟨(some 4), none, .q (.mv (.v (.int .i64 0))), []⟩,
    ⟨(some 5), none, .q (.mv (.v (.bool false))), []⟩]
def c70_1 : ACode := .ops [
    ⟨(some 6), none, .q (.mv (.t 0)), []⟩,
    ⟨(some 7), none, .q (.mv (.t 1)), []⟩,
    ⟨(some 8), none, .q (.bin .add (.t 6) (.t 7)), []⟩,
    ⟨(some 9), none, .q (.bin .lss (.t 8) (.v (.int .i64 0))), []⟩,
    ⟨(some 10), none, .q (.mv (.t 0)), []⟩,
    ⟨(some 11), none, .q (.mv (.t 1)), []⟩,
    ⟨(some 12), none, .q (.bin .add (.t 10) (.t 11)), []⟩,
    ⟨(some 13), none, .e (.call 67 [(.t 12)]), []⟩,
    ⟨(some 14), none, .e (.call 63 [(.t 9), (.v (.int .u64 0)), (.t 13)]), []⟩,
    ⟨(some 15), none, .q (.ext 0 (.t 14)), []⟩,
    ⟨(some 16), none, .q (.ext 1 (.t 14)), []⟩,
    ⟨(some 4), none, .q (.mv (.t 15)), []⟩,
    ⟨(some 5), none, .q (.mv (.t 16)), []⟩]
def c70_2 : ACode := .seq c70_1 .ret
def c70_3 : ACode := .seq c70_0 c70_2
@[go_sem] theorem c70_0_wp : type_of% (wp_of c70_0.eq_1) := wp_of c70_0.eq_1
@[go_sem] theorem c70_1_wp : type_of% (wp_of c70_1.eq_1) := wp_of c70_1.eq_1
@[go_sem] theorem c70_2_wp : type_of% (wp_of c70_2.eq_1) := wp_of c70_2.eq_1
@[go_sem] theorem c70_3_wp : type_of% (wp_of c70_3.eq_1) := wp_of c70_3.eq_1
def c70 : AFn := ⟨17, [.t 4, .t 5], c70_3⟩
set_option maxRecDepth 100000 in
theorem c70_ok : compF Tryd.prog Tryd.f70 = some c70 := by kernel_rfl
theorem a70 {args : List AV} {σ : ASt} {R : AV → ASt → Prop} (hl : args.length ≤ 17) (h : c70_3.wp Tryd.prog (RetQ [.t 4, .t 5] R) (init args) σ) : ACalls Tryd.prog 70 args σ R := acalls_of Tryd.func70 c70_ok hl h

/-! 71: tabular/deci.Ceil -/
def c71_0 : ACode := .ops [
    ⟨(some 4), none, .q (.mv (.v (.int .i64 0))), []⟩,
    ⟨(some 5), none, .q (.mv (.v (.bool false))), []⟩]
def c71_1 : ACode := .ops [
    ⟨(some 9), none, .q (.mv (.t 0)), []⟩,
    ⟨(some 10), none, .q (.un .neg (.t 9)), []⟩,
    ⟨(some 11), none, .q (.mv (.t 1)), []⟩,
    ⟨(some 12), none, .e (.call 35 [(.t 10), (.t 11)]), []⟩,
    ⟨(some 8), none, .q (.mv (.t 12)), []⟩,
    ⟨(some 13), none, .q (.ext 0 (.t 8)), []⟩,
    ⟨(some 14), none, .q (.ext 1 (.t 8)), []⟩,
    ⟨(some 6), none, .q (.mv (.t 13)), []⟩,
    ⟨(some 7), none, .q (.mv (.t 14)), []⟩]
def c71_2 : ACode := .ops [
    ⟨(some 15), none, .q (.mv (.t 6)), []⟩,
    ⟨(some 16), none, .q (.un .neg (.t 15)), []⟩,
    ⟨(some 17), none, .q (.mv (.t 7)), []⟩,
    ⟨(some 4), none, .q (.mv (.t 16)), []⟩,
    ⟨(some 5), none, .q (.mv (.t 17)), []⟩]
def c71_3 : ACode := .seq c71_2 .ret
def c71_4 : ACode := .seq c71_1 c71_3
def c71_5 : ACode := .seq c71_0 c71_4
@[go_sem] theorem c71_0_wp : type_of% (wp_of c71_0.eq_1) := wp_of c71_0.eq_1
@[go_sem] theorem c71_1_wp : type_of% (wp_of c71_1.eq_1) := wp_of c71_1.eq_1
@[go_sem] theorem c71_2_wp : type_of% (wp_of c71_2.eq_1) := wp_of c71_2.eq_1
@[go_sem] theorem c71_3_wp : type_of% (wp_of c71_3.eq_1) := wp_of c71_3.eq_1
@[go_sem] theorem c71_4_wp : type_of% (wp_of c71_4.eq_1) := wp_of c71_4.eq_1
@[go_sem] theorem c71_5_wp : type_of% (wp_of c71_5.eq_1) := wp_of c71_5.eq_1
def c71 : AFn := ⟨18, [.t 4, .t 5], c71_5⟩
set_option maxRecDepth 100000 in
theorem c71_ok : compF Tryd.prog Tryd.f71 = some c71 := by kernel_rfl
theorem a71 {args : List AV} {σ : ASt} {R : AV → ASt → Prop} (hl : args.length ≤ 18) (h : c71_5.wp Tryd.prog (RetQ [.t 4, .t 5] R) (init args) σ) : ACalls Tryd.prog 71 args σ R := acalls_of Tryd.func71 c71_ok hl h

/-! 72: tabular/deci.Int -/
def c72_0 : ACode := .ops [
    ⟨(some 2), none, .q (.mv (.v (.int .i64 0))), []⟩,
    ⟨(some 3), none, .q (.mv (.v (.bool false))), []⟩]
def c72_1 : ACode := .ops [
    ⟨(some 7), none, .q (.mv (.t 0)), []⟩,
    ⟨(some 8), none, .q (.conv .u64 (.t 7)), []⟩,
    ⟨(some 4), none, .q (.mv (.t 8)), []⟩]
def c72_2 : ACode := .ops [
    ⟨(some 9), none, .q (.mv (.t 0)), []⟩,
    ⟨(some 10), none, .q (.bin .lss (.t 9) (.v (.int .i64 0))), []⟩]
def c72_3 : ACode := .ops [
    ⟨(some 11), none, .q (.mv (.t 4)), []⟩,
    ⟨(some 12), none, .q (.un .neg (.t 11)), []⟩,
    ⟨(some 4), none, .q (.mv (.t 12)), []⟩]
def c72_4 : ACode := .cond (.t 10) c72_3 .skip
def c72_5 : ACode := .seq c72_2 c72_4
def c72_6 : ACode := .ops [
    ⟨(some 14), none, .q (.mv (.t 4)), []⟩,
    ⟨(some 15), none, .e (.call 73 [(.t 14), (.v (.int .u64 10000))]), []⟩,
    ⟨(some 13), none, .q (.mv (.t 15)), []⟩,
    ⟨(some 16), none, .q (.ext 0 (.t 13)), []⟩,
    ⟨(some 17), none, .q (.ext 1 (.t 13)), []⟩,
    ⟨(some 5), none, .q (.mv (.t 16)), []⟩,
    ⟨(some 6), none, .q (.mv (.t 17)), []⟩]
def c72_7 : ACode := .ops [
    ⟨(some 18), none, .q (.mv (.t 0)), []⟩,
    ⟨(some 19), none, .q (.bin .lss (.t 18) (.v (.int .i64 0))), []⟩,
    ⟨(some 20), none, .q (.mv (.t 5)), []⟩,
    ⟨(some 21), none, .q (.mv (.t 6)), []⟩,
    ⟨(some 22), none, .e (.call 63 [(.t 19), (.t 20), (.t 21)]), []⟩,
    ⟨(some 23), none, .q (.ext 0 (.t 22)), []⟩,
    ⟨(some 24), none, .q (.ext 1 (.t 22)), []⟩,
    ⟨(some 2), none, .q (.mv (.t 23)), []⟩,
    ⟨(some 3), none, .q (.mv (.t 24)), []⟩]
def c72_8 : ACode := .seq c72_7 .ret
def c72_9 : ACode := .seq c72_6 c72_8
def c72_10 : ACode := .seq c72_5 c72_9
def c72_11 : ACode := .seq c72_1 c72_10
def c72_12 : ACode := .seq c72_0 c72_11
@[go_sem] theorem c72_0_wp : type_of% (wp_of c72_0.eq_1) := wp_of c72_0.eq_1
@[go_sem] theorem c72_1_wp : type_of% (wp_of c72_1.eq_1) := wp_of c72_1.eq_1
@[go_sem] theorem c72_2_wp : type_of% (wp_of c72_2.eq_1) := wp_of c72_2.eq_1
@[go_sem] theorem c72_3_wp : type_of% (wp_of c72_3.eq_1) := wp_of c72_3.eq_1
@[go_sem] theorem c72_4_wp : type_of% (wp_of c72_4.eq_1) := wp_of c72_4.eq_1
@[go_sem] theorem c72_5_wp : type_of% (wp_of c72_5.eq_1) := wp_of c72_5.eq_1
@[go_sem] theorem c72_6_wp : type_of% (wp_of c72_6.eq_1) := wp_of c72_6.eq_1
@[go_sem] theorem c72_7_wp : type_of% (wp_of c72_7.eq_1) := wp_of c72_7.eq_1
@[go_sem] theorem c72_8_wp : type_of% (wp_of c72_8.eq_1) := wp_of c72_8.eq_1
@[go_sem] theorem c72_9_wp : type_of% (wp_of c72_9.eq_1) := wp_of c72_9.eq_1
@[go_sem] theorem c72_10_wp : type_of% (wp_of c72_10.eq_1) := wp_of c72_10.eq_1
@[go_sem] theorem c72_11_wp : type_of% (wp_of c72_11.eq_1) := wp_of c72_11.eq_1
@[go_sem] theorem c72_12_wp : type_of% (wp_of c72_12.eq_1) := wp_of c72_12.eq_1
def c72 : AFn := ⟨25, [.t 2, .t 3], c72_12⟩
set_option maxRecDepth 100000 in
theorem c72_ok : compF Tryd.prog Tryd.f72 = some c72 := by kernel_rfl
theorem a72 {args : List AV} {σ : ASt} {R : AV → ASt → Prop} (hl : args.length ≤ 25) (h : c72_12.wp Tryd.prog (RetQ [.t 2, .t 3] R) (init args) σ) : ACalls Tryd.prog 72 args σ R := acalls_of Tryd.func72 c72_ok hl h

/-! 74: tabular/deci.Mul -/
def c74_0 : ACode := .ops [
    ⟨(some 4), none, .q (.mv (.v (.int .i64 0))), []⟩,
    ⟨(some 5), none, .q (.mv (.v (.bool false))), []⟩]
def c74_1 : ACode := .ops [
    ⟨(some 11), none, .q (.mv (.t 0)), []⟩,
    ⟨(some 12), none, .e (.call 67 [(.t 11)]), []⟩,
    ⟨(some 13), none, .q (.mv (.t 1)), []⟩,
    ⟨(some 14), none, .e (.call 67 [(.t 13)]), []⟩,
    ⟨(some 15), none, .e (.call 73 [(.t 12), (.t 14)]), []⟩,
    ⟨(some 10), none, .q (.mv (.t 15)), []⟩,
    ⟨(some 16), none, .q (.ext 0 (.t 10)), []⟩,
    ⟨(some 17), none, .q (.ext 1 (.t 10)), []⟩,
    ⟨(some 6), none, .q (.mv (.t 16)), []⟩,
    ⟨(some 7), none, .q (.mv (.t 17)), []⟩]
def c74_2 : ACode := .ops [
    ⟨(some 19), none, .q (.mv (.t 6)), []⟩,
    ⟨(some 20), none, .q (.mv (.t 7)), []⟩,
    ⟨(some 21), none, .e (.call 95 [(.t 19), (.t 20), (.v (.int .u64 10000))]), []⟩,
    ⟨(some 18), none, .q (.mv (.t 21)), []⟩,
    ⟨(some 22), none, .q (.ext 0 (.t 18)), []⟩,
    ⟨(some 23), none, .q (.ext 1 (.t 18)), []⟩,
    ⟨(some 8), none, .q (.mv (.t 22)), []⟩,
    ⟨(some 9), none, .q (.mv (.t 23)), []⟩]
def c74_3 : ACode := .ops [
    ⟨(some 24), none, .q (.mv (.t 9)), []⟩,
    ⟨(some 25), none, .q (.un .not (.t 24)), []⟩]
def c74_4 : ACode := .ops [
    ⟨(some 4), none, .q (.mv (.v (.int .i64 0))), []⟩,
    ⟨(some 5), none, .q (.mv (.v (.bool false))), []⟩]
def c74_5 : ACode := .seq c74_4 .ret
def c74_6 : ACode := .cond (.t 25) c74_5 .skip
def c74_7 : ACode := .seq c74_3 c74_6
def c74_8 : ACode := .ops [
    ⟨(some 26), none, .q (.mv (.t 0)), []⟩,
    ⟨(some 27), none, .q (.bin .lss (.t 26) (.v (.int .i64 0))), []⟩,
    ⟨(some 28), none, .q (.mv (.t 1)), []⟩,
    ⟨(some 29), none, .q (.bin .lss (.t 28) (.v (.int .i64 0))), []⟩,
    ⟨(some 30), none, .q (.eq .b true (.t 27) (.t 29)), []⟩,
    ⟨(some 31), none, .q (.mv (.t 8)), []⟩,
    ⟨(some 32), none, .e (.call 63 [(.t 30), (.v (.int .u64 0)), (.t 31)]), []⟩,
    ⟨(some 33), none, .q (.ext 0 (.t 32)), []⟩,
    ⟨(some 34), none, .q (.ext 1 (.t 32)), []⟩,
    ⟨(some 4), none, .q (.mv (.t 33)), []⟩,
    ⟨(some 5), none, .q (.mv (.t 34)), []⟩]
def c74_9 : ACode := .seq c74_8 .ret
def c74_10 : ACode := .seq c74_7 c74_9
def c74_11 : ACode := .seq c74_2 c74_10
def c74_12 : ACode := .seq c74_1 c74_11
def c74_13 : ACode := .seq c74_0 c74_12
@[go_sem] theorem c74_0_wp : type_of% (wp_of c74_0.eq_1) := wp_of c74_0.eq_1
@[go_sem] theorem c74_1_wp : type_of% (wp_of c74_1.eq_1) := wp_of c74_1.eq_1
@[go_sem] theorem c74_2_wp : type_of% (wp_of c74_2.eq_1) := wp_of c74_2.eq_1
@[go_sem] theorem c74_3_wp : type_of% (wp_of c74_3.eq_1) := wp_of c74_3.eq_1
@[go_sem] theorem c74_4_wp : type_of% (wp_of c74_4.eq_1) := wp_of c74_4.eq_1
@[go_sem] theorem c74_5_wp : type_of% (wp_of c74_5.eq_1) := wp_of c74_5.eq_1
@[go_sem] theorem c74_6_wp : type_of% (wp_of c74_6.eq_1) := wp_of c74_6.eq_1
@[go_sem] theorem c74_7_wp : type_of% (wp_of c74_7.eq_1) := wp_of c74_7.eq_1
@[go_sem] theorem c74_8_wp : type_of% (wp_of c74_8.eq_1) := wp_of c74_8.eq_1
@[go_sem] theorem c74_9_wp : type_of% (wp_of c74_9.eq_1) := wp_of c74_9.eq_1
@[go_sem] theorem c74_10_wp : type_of% (wp_of c74_10.eq_1) := wp_of c74_10.eq_1
@[go_sem] theorem c74_11_wp : type_of% (wp_of c74_11.eq_1) := wp_of c74_11.eq_1
@[go_sem] theorem c74_12_wp : type_of% (wp_of c74_12.eq_1) := wp_of c74_12.eq_1
@[go_sem] theorem c74_13_wp : type_of% (wp_of c74_13.eq_1) := wp_of c74_13.eq_1
def c74 : AFn := ⟨35, [.t 4, .t 5], c74_13⟩
set_option maxRecDepth 100000 in
theorem c74_ok : compF Tryd.prog Tryd.f74 = some c74 := by kernel_rfl
theorem a74 {args : List AV} {σ : ASt} {R : AV → ASt → Prop} (hl : args.length ≤ 35) (h : c74_13.wp Tryd.prog (RetQ [.t 4, .t 5] R) (init args) σ) : ACalls Tryd.prog 74 args σ R := acalls_of Tryd.func74 c74_ok hl h

/-! 81: tabular/deci.Div -/
def c81_0 : ACode := .ops [
    ⟨(some 4), none, .q (.mv (.v (.int .i64 0))), []⟩,
    ⟨(some 5), none, .q (.mv (.v (.bool false))), []⟩]
def c81_1 : ACode := .ops [
    ⟨(some 10), none, .q (.mv (.t 1)), []⟩,
    ⟨(some 11), none, .q (.bin .eql (.t 10) (.v (.int .i64 0))), []⟩]
def c81_2 : ACode := .ops [
    ⟨(some 4), none, .q (.mv (.v (.int .i64 0))), []⟩,
    ⟨(some 5), none, .q (.mv (.v (.bool false))), []⟩]
def c81_3 : ACode := .seq c81_2 .ret
def c81_4 : ACode := .cond (.t 11) c81_3 .skip
def c81_5 : ACode := .seq c81_1 c81_4
def c81_6 : ACode := .ops [
    ⟨(some 13), none, .q (.mv (.t 0)), []⟩,
    ⟨(some 14), none, .e (.call 67 [(.t 13)]), []⟩,
    ⟨(some 15), none, .e (.call 73 [(.t 14), (.v (.int .u64 10000))]), []⟩,
    ⟨(some 12), none, .q (.mv (.t 15)), []⟩,
    ⟨(some 16), none, .q (.ext 0 (.t 12)), []⟩,
    ⟨(some 17), none, .q (.ext 1 (.t 12)), []⟩,
    ⟨(some 6), none, .q (.mv (.t 16)), []⟩,
    ⟨(some 7), none, .q (.mv (.t 17)), []⟩]
def c81_7 : ACode := .ops [
    ⟨(some 19), none, .q (.mv (.t 6)), []⟩,
    ⟨(some 20), none, .q (.mv (.t 7)), []⟩,
    ⟨(some 21), none, .q (.mv (.t 1)), []⟩,
    ⟨(some 22), none, .e (.call 67 [(.t 21)]), []⟩,
    ⟨(some 23), none, .e (.call 95 [(.t 19), (.t 20), (.t 22)]), []⟩,
    ⟨(some 18), none, .q (.mv (.t 23)), []⟩,
    ⟨(some 24), none, .q (.ext 0 (.t 18)), []⟩,
    ⟨(some 25), none, .q (.ext 1 (.t 18)), []⟩,
    ⟨(some 8), none, .q (.mv (.t 24)), []⟩,
    ⟨(some 9), none, .q (.mv (.t 25)), []⟩]
def c81_8 : ACode := .ops [
    ⟨(some 26), none, .q (.mv (.t 9)), []⟩,
    ⟨(some 27), none, .q (.un .not (.t 26)), []⟩]
def c81_9 : ACode := .ops [
    ⟨(some 4), none, .q (.mv (.v (.int .i64 0))), []⟩,
    ⟨(some 5), none, .q (.mv (.v (.bool false))), []⟩]
def c81_10 : ACode := .seq c81_9 .ret
def c81_11 : ACode := .cond (.t 27) c81_10 .skip
def c81_12 : ACode := .seq c81_8 c81_11
def c81_13 : ACode := .ops [
    ⟨(some 28), none, .q (.mv (.t 0)), []⟩,
    ⟨(some 29), none, .q (.bin .lss (.t 28) (.v (.int .i64 0))), []⟩,
    ⟨(some 30), none, .q (.mv (.t 1)), []⟩,
    ⟨(some 31), none, .q (.bin .lss (.t 30) (.v (.int .i64 0))), []⟩,
    ⟨(some 32), none, .q (.eq .b true (.t 29) (.t 31)), []⟩,
    ⟨(some 33), none, .q (.mv (.t 8)), []⟩,
    ⟨(some 34), none, .e (.call 63 [(.t 32), (.v (.int .u64 0)), (.t 33)]), []⟩,
    ⟨(some 35), none, .q (.ext 0 (.t 34)), []⟩,
    ⟨(some 36), none, .q (.ext 1 (.t 34)), []⟩,
    ⟨(some 4), none, .q (.mv (.t 35)), []⟩,
    ⟨(some 5), none, .q (.mv (.t 36)), []⟩]
def c81_14 : ACode := .seq c81_13 .ret
def c81_15 : ACode := .seq c81_12 c81_14
def c81_16 : ACode := .seq c81_7 c81_15
def c81_17 : ACode := .seq c81_6 c81_16
def c81_18 : ACode := .seq c81_5 c81_17
def c81_19 : ACode := .seq c81_0 c81_18
@[go_sem] theorem c81_0_wp : type_of% (wp_of c81_0.eq_1) := wp_of c81_0.eq_1
@[go_sem] theorem c81_1_wp : type_of% (wp_of c81_1.eq_1) := wp_of c81_1.eq_1
@[go_sem] theorem c81_2_wp : type_of% (wp_of c81_2.eq_1) := wp_of c81_2.eq_1
@[go_sem] theorem c81_3_wp : type_of% (wp_of c81_3.eq_1) := wp_of c81_3.eq_1
@[go_sem] theorem c81_4_wp : type_of% (wp_of c81_4.eq_1) := wp_of c81_4.eq_1
@[go_sem] theorem c81_5_wp : type_of% (wp_of c81_5.eq_1) := wp_of c81_5.eq_1
@[go_sem] theorem c81_6_wp : type_of% (wp_of c81_6.eq_1) := wp_of c81_6.eq_1
@[go_sem] theorem c81_7_wp : type_of% (wp_of c81_7.eq_1) := wp_of c81_7.eq_1
@[go_sem] theorem c81_8_wp : type_of% (wp_of c81_8.eq_1) := wp_of c81_8.eq_1
@[go_sem] theorem c81_9_wp : type_of% (wp_of c81_9.eq_1) := wp_of c81_9.eq_1
@[go_sem] theorem c81_10_wp : type_of% (wp_of c81_10.eq_1) := wp_of c81_10.eq_1
@[go_sem] theorem c81_11_wp : type_of% (wp_of c81_11.eq_1) := wp_of c81_11.eq_1
@[go_sem] theorem c81_12_wp : type_of% (wp_of c81_12.eq_1) := wp_of c81_12.eq_1
@[go_sem] theorem c81_13_wp : type_of% (wp_of c81_13.eq_1) := wp_of c81_13.eq_1
@[go_sem] theorem c81_14_wp : type_of% (wp_of c81_14.eq_1) := wp_of c81_14.eq_1
@[go_sem] theorem c81_15_wp : type_of% (wp_of c81_15.eq_1) := wp_of c81_15.eq_1
@[go_sem] theorem c81_16_wp : type_of% (wp_of c81_16.eq_1) := wp_of c81_16.eq_1
@[go_sem] theorem c81_17_wp : type_of% (wp_of c81_17.eq_1) := wp_of c81_17.eq_1
@[go_sem] theorem c81_18_wp : type_of% (wp_of c81_18.eq_1) := wp_of c81_18.eq_1
@[go_sem] theorem c81_19_wp : type_of% (wp_of c81_19.eq_1) := wp_of c81_19.eq_1
def c81 : AFn := ⟨37, [.t 4, .t 5], c81_19⟩
set_option maxRecDepth 100000 in
theorem c81_ok : compF Tryd.prog Tryd.f81 = some c81 := by kernel_rfl
theorem a81 {args : List AV} {σ : ASt} {R : AV → ASt → Prop} (hl : args.length ≤ 37) (h : c81_19.wp Tryd.prog (RetQ [.t 4, .t 5] R) (init args) σ) : ACalls Tryd.prog 81 args σ R := acalls_of Tryd.func81 c81_ok hl h

/-! 87: internal/stringslite.Cut -/
def c87_0 : ACode := .ops [
    ⟨(some 4), none, .q (.mv (.v (.str []))), []⟩,
    ⟨(some 5), none, .q (.mv (.v (.str []))), []⟩,
    ⟨(some 6), none, .q (.mv (.v (.bool false))), []⟩]
def c87_1 : ACode := .ops [
    ⟨(some 8), none, .q (.mv (.t 0)), []⟩,
    ⟨(some 9), none, .q (.mv (.t 1)), []⟩,
    ⟨(some 10), none, .e (.call 101 [(.t 8), (.t 9)]), []⟩,
    ⟨(some 7), none, .q (.mv (.t 10)), []⟩]
def c87_2 : ACode := .ops [
    ⟨(some 11), none, .q (.mv (.t 7)), []⟩,
    ⟨(some 12), none, .q (.bin .geq (.t 11) (.v (.int .i64 0))), []⟩]
def c87_3 : ACode := .ops [
    ⟨(some 13), none, .q (.mv (.t 0)), []⟩,
    ⟨(some 14), none, .q (.mv (.t 7)), []⟩,
    ⟨(some 15), none, .q (.slto (true, 0) (.t 13) (.t 14)), []⟩,
    ⟨(some 16), none, .q (.mv (.t 0)), []⟩,
    ⟨(some 17), none, .q (.mv (.t 7)), []⟩,
    ⟨(some 18), none, .q (.mv (.t 1)), []⟩,
    ⟨(some 19), none, .q (.lenS (.t 18)), []⟩,
    ⟨(some 20), none, .q (.bin .add (.t 17) (.t 19)), []⟩,
    ⟨(some 21), none, .q (.slfrom (true, 0) (.t 16) (.t 20)), []⟩,
    ⟨(some 4), none, .q (.mv (.t 15)), []⟩,
    ⟨(some 5), none, .q (.mv (.t 21)), []⟩,
    ⟨(some 6), none, .q (.mv (.v (.bool true))), []⟩]
def c87_4 : ACode := .seq c87_3 .ret
def c87_5 : ACode := .cond (.t 12) c87_4 .skip
def c87_6 : ACode := .seq c87_2 c87_5
def c87_7 : ACode := .seq c87_1 c87_6
def c87_8 : ACode := .ops [
    ⟨(some 22), none, .q (.mv (.t 0)), []⟩,
    ⟨(some 4), none, .q (.mv (.t 22)), []⟩,
    ⟨(some 5), none, .q (.mv (.v (.str []))), []⟩,
    ⟨(some 6), none, .q (.mv (.v (.bool false))), []⟩]
def c87_9 : ACode := .seq c87_8 .ret
def c87_10 : ACode := .seq c87_7 c87_9
def c87_11 : ACode := .seq c87_0 c87_10
@[go_sem] theorem c87_0_wp : type_of% (wp_of c87_0.eq_1) := wp_of c87_0.eq_1
@[go_sem] theorem c87_1_wp : type_of% (wp_of c87_1.eq_1) := wp_of c87_1.eq_1
@[go_sem] theorem c87_2_wp : type_of% (wp_of c87_2.eq_1) := wp_of c87_2.eq_1
@[go_sem] theorem c87_3_wp : type_of% (wp_of c87_3.eq_1) := wp_of c87_3.eq_1
@[go_sem] theorem c87_4_wp : type_of% (wp_of c87_4.eq_1) := wp_of c87_4.eq_1
@[go_sem] theorem c87_5_wp : type_of% (wp_of c87_5.eq_1) := wp_of c87_5.eq_1
@[go_sem] theorem c87_6_wp : type_of% (wp_of c87_6.eq_1) := wp_of c87_6.eq_1
@[go_sem] theorem c87_7_wp : type_of% (wp_of c87_7.eq_1) := wp_of c87_7.eq_1
@[go_sem] theorem c87_8_wp : type_of% (wp_of c87_8.eq_1) := wp_of c87_8.eq_1
@[go_sem] theorem c87_9_wp : type_of% (wp_of c87_9.eq_1) := wp_of c87_9.eq_1
@[go_sem] theorem c87_10_wp : type_of% (wp_of c87_10.eq_1) := wp_of c87_10.eq_1
@[go_sem] theorem c87_11_wp : type_of% (wp_of c87_11.eq_1) := wp_of c87_11.eq_1
def c87 : AFn := ⟨23, [.t 4, .t 5, .t 6], c87_11⟩
set_option maxRecDepth 100000 in
theorem c87_ok : compF Tryd.prog Tryd.f87 = some c87 := by kernel_rfl
theorem a87 {args : List AV} {σ : ASt} {R : AV → ASt → Prop} (hl : args.length ≤ 23) (h : c87_11.wp Tryd.prog (RetQ [.t 4, .t 5, .t 6] R) (init args) σ) : ACalls Tryd.prog 87 args σ R := acalls_of Tryd.func87 c87_ok hl h

/-! 95: tabular/deci.quot -/
def c95_0 : ACode := .ops [
    ⟨(some 6), none, .q (.mv (.v (.int .u64 0))), []⟩,
    ⟨(some 7), none, .q (.mv (.v (.bool false))), []⟩]
def c95_1 : ACode := .ops [
    ⟨(some 10), none, .q (.mv (.t 0)), []⟩,
    ⟨(some 11), none, .q (.mv (.t 2)), []⟩,
    ⟨(some 12), none, .q (.bin .geq (.t 10) (.t 11)), []⟩]
def c95_2 : ACode := .ops [
    ⟨(some 6), none, .q (.mv (.v (.int .u64 0))), []⟩,
    ⟨(some 7), none, .q (.mv (.v (.bool false))), []⟩]
def c95_3 : ACode := .seq c95_2 .ret
def c95_4 : ACode := .cond (.t 12) c95_3 .skip
def c95_5 : ACode := .seq c95_1 c95_4
def c95_6 : ACode := .ops [
    ⟨(some 14), none, .q (.mv (.t 0)), []⟩,
    ⟨(some 15), none, .q (.mv (.t 1)), []⟩,
    ⟨(some 16), none, .q (.mv (.t 2)), []⟩,
    ⟨(some 17), none, .e (.call 105 [(.t 14), (.t 15), (.t 16)]), []⟩,
    ⟨(some 13), none, .q (.mv (.t 17)), []⟩,
    ⟨(some 18), none, .q (.ext 0 (.t 13)), []⟩,
    ⟨(some 19), none, .q (.ext 1 (.t 13)), []⟩,
    ⟨(some 8), none, .q (.mv (.t 18)), []⟩,
    ⟨(some 9), none, .q (.mv (.t 19)), []⟩]
def c95_7 : ACode := .ops [
    ⟨(some 20), none, .q (.mv (.t 9)), []⟩,
    ⟨(some 21), none, .q (.mv (.t 2)), []⟩,
    ⟨(some 22), none, .q (.mv (.t 9)), []⟩,
    ⟨(some 23), none, .q (.bin .sub (.t 21) (.t 22)), []⟩,
    ⟨(some 24), none, .q (.bin .geq (.t 20) (.t 23)), []⟩]
def c95_8 : ACode := .ops [
    ⟨(some 25), none, .q (.mv (.t 8)), []⟩,
    ⟨(some 26), none, .q (.bin .add (.t 25) (.v (.int .u64 1))), []⟩,
    ⟨(some 8), none, .q (.mv (.t 26)), []⟩]
def c95_9 : ACode := .cond (.t 24) c95_8 .skip
def c95_10 : ACode := .seq c95_7 c95_9
def c95_11 : ACode := .ops [
    ⟨(some 27), none, .q (.mv (.t 8)), []⟩,
    ⟨(some 28), none, .q (.mv (.t 8)), []⟩,
    ⟨(some 29), none, .q (.bin .leq (.t 28) (.v (.int .u64 999999999999999999))), []⟩,
    ⟨(some 6), none, .q (.mv (.t 27)), []⟩,
    ⟨(some 7), none, .q (.mv (.t 29)), []⟩]
def c95_12 : ACode := .seq c95_11 .ret
def c95_13 : ACode := .seq c95_10 c95_12
def c95_14 : ACode := .seq c95_6 c95_13
def c95_15 : ACode := .seq c95_5 c95_14
def c95_16 : ACode := .seq c95_0 c95_15
@[go_sem] theorem c95_0_wp : type_of% (wp_of c95_0.eq_1) := wp_of c95_0.eq_1
@[go_sem] theorem c95_1_wp : type_of% (wp_of c95_1.eq_1) := wp_of c95_1.eq_1
@[go_sem] theorem c95_2_wp : type_of% (wp_of c95_2.eq_1) := wp_of c95_2.eq_1
@[go_sem] theorem c95_3_wp : type_of% (wp_of c95_3.eq_1) := wp_of c95_3.eq_1
@[go_sem] theorem c95_4_wp : type_of% (wp_of c95_4.eq_1) := wp_of c95_4.eq_1
@[go_sem] theorem c95_5_wp : type_of% (wp_of c95_5.eq_1) := wp_of c95_5.eq_1
@[go_sem] theorem c95_6_wp : type_of% (wp_of c95_6.eq_1) := wp_of c95_6.eq_1
@[go_sem] theorem c95_7_wp : type_of% (wp_of c95_7.eq_1) := wp_of c95_7.eq_1
@[go_sem] theorem c95_8_wp : type_of% (wp_of c95_8.eq_1) := wp_of c95_8.eq_1
@[go_sem] theorem c95_9_wp : type_of% (wp_of c95_9.eq_1) := wp_of c95_9.eq_1
@[go_sem] theorem c95_10_wp : type_of% (wp_of c95_10.eq_1) := wp_of c95_10.eq_1
@[go_sem] theorem c95_11_wp : type_of% (wp_of c95_11.eq_1) := wp_of c95_11.eq_1
@[go_sem] theorem c95_12_wp : type_of% (wp_of c95_12.eq_1) := wp_of c95_12.eq_1
@[go_sem] theorem c95_13_wp : type_of% (wp_of c95_13.eq_1) := wp_of c95_13.eq_1
@[go_sem] theorem c95_14_wp : type_of% (wp_of c95_14.eq_1) := wp_of c95_14.eq_1
@[go_sem] theorem c95_15_wp : type_of% (wp_of c95_15.eq_1) := wp_of c95_15.eq_1
@[go_sem] theorem c95_16_wp : type_of% (wp_of c95_16.eq_1) := wp_of c95_16.eq_1
def c95 : AFn := ⟨30, [.t 6, .t 7], c95_16⟩
set_option maxRecDepth 100000 in
theorem c95_ok : compF Tryd.prog Tryd.f95 = some c95 := by kernel_rfl
theorem a95 {args : List AV} {σ : ASt} {R : AV → ASt → Prop} (hl : args.length ≤ 30) (h : c95_16.wp Tryd.prog (RetQ [.t 6, .t 7] R) (init args) σ) : ACalls Tryd.prog 95 args σ R := acalls_of Tryd.func95 c95_ok hl h

/-! 97: (tabular/deci.Dec).Text -/
def c97_0 : ACode := .ops [
    ⟨(some 2), none, .q (.mv (.v (.str []))), []⟩]
def c97_1 : ACode := .ops [
    ⟨(some 6), none, .q (.mv (.t 0)), []⟩,
    ⟨(some 7), none, .e (.call 67 [(.t 6)]), []⟩,
    ⟨(some 3), none, .q (.mv (.t 7)), []⟩]
def c97_2 : ACode := .ops [
    ⟨(some 8), none, .q (.mv (.t 3)), []⟩,
    ⟨(some 9), none, .q (.bin .quo (.t 8) (.v (.int .u64 10000))), []⟩,
    ⟨(some 10), none, .e (.call 107 [(.t 9), (.v (.int .i64 10))]), []⟩,
    ⟨(some 4), none, .q (.mv (.t 10)), []⟩]
def c97_3 : ACode := .ops [
    ⟨(some 11), none, .q (.mv (.t 3)), []⟩,
    ⟨(some 12), none, .q (.bin .rem (.t 11) (.v (.int .u64 10000))), []⟩,
    ⟨(some 5), none, .q (.mv (.t 12)), []⟩]
def c97_4 : ACode := .ops [
    ⟨(some 13), none, .q (.mv (.t 5)), []⟩,
    ⟨(some 14), none, .q (.bin .gtr (.t 13) (.v (.int .u64 0))), []⟩]
def c97_5 : ACode := .ops [
    ⟨(some 15), none, .q (.mv (.t 4)), []⟩,
    ⟨(some 16), none, .q (.mv (.t 5)), []⟩,
    ⟨(some 17), none, .q (.bin .add (.v (.int .u64 10000)) (.t 16)), []⟩,
    ⟨(some 18), none, .e (.call 107 [(.t 17), (.v (.int .i64 10))]), []⟩,
    ⟨(some 19), none, .q (.slfrom (true, 0) (.t 18) (.v (.int .i64 1))), []⟩,
    ⟨(some 20), none, .e (.call 108 [(.t 19), (.v (.str [48]))]), []⟩,
    ⟨(some 21), none, .q (.bin .add (.v (.str [46])) (.t 20)), []⟩,
    ⟨(some 22), none, .q (.bin .add (.t 15) (.t 21)), []⟩,
    ⟨(some 4), none, .q (.mv (.t 22)), []⟩]
def c97_6 : ACode := .cond (.t 14) c97_5 .skip
def c97_7 : ACode := .seq c97_4 c97_6
def c97_8 : ACode := .seq c97_3 c97_7
def c97_9 : ACode := .ops [
    ⟨(some 23), none, .q (.mv (.t 0)), []⟩,
    ⟨(some 24), none, .q (.bin .lss (.t 23) (.v (.int .i64 0))), []⟩]
def c97_10 : ACode := .ops [
    ⟨(some 25), none, .q (.mv (.t 4)), []⟩,
    ⟨(some 26), none, .q (.bin .add (.v (.str [45])) (.t 25)), []⟩,
    ⟨(some 2), none, .q (.mv (.t 26)), []⟩]
def c97_11 : ACode := .seq c97_10 .ret
def c97_12 : ACode := .cond (.t 24) c97_11 .skip
def c97_13 : ACode := .seq c97_9 c97_12
def c97_14 : ACode := .ops [
    ⟨(some 27), none, .q (.mv (.t 4)), []⟩,
    ⟨(some 2), none, .q (.mv (.t 27)), []⟩]
def c97_15 : ACode := .seq c97_14 .ret
def c97_16 : ACode := .seq c97_13 c97_15
def c97_17 : ACode := .seq c97_8 c97_16
def c97_18 : ACode := .seq c97_2 c97_17
def c97_19 : ACode := .seq c97_1 c97_18
def c97_20 : ACode := .seq c97_0 c97_19
@[go_sem] theorem c97_0_wp : type_of% (wp_of c97_0.eq_1) := wp_of c97_0.eq_1
@[go_sem] theorem c97_1_wp : type_of% (wp_of c97_1.eq_1) := wp_of c97_1.eq_1
@[go_sem] theorem c97_2_wp : type_of% (wp_of c97_2.eq_1) := wp_of c97_2.eq_1
@[go_sem] theorem c97_3_wp : type_of% (wp_of c97_3.eq_1) := wp_of c97_3.eq_1
@[go_sem] theorem c97_4_wp : type_of% (wp_of c97_4.eq_1) := wp_of c97_4.eq_1
@[go_sem] theorem c97_5_wp : type_of% (wp_of c97_5.eq_1) := wp_of c97_5.eq_1
@[go_sem] theorem c97_6_wp : type_of% (wp_of c97_6.eq_1) := wp_of c97_6.eq_1
@[go_sem] theorem c97_7_wp : type_of% (wp_of c97_7.eq_1) := wp_of c97_7.eq_1
@[go_sem] theorem c97_8_wp : type_of% (wp_of c97_8.eq_1) := wp_of c97_8.eq_1
@[go_sem] theorem c97_9_wp : type_of% (wp_of c97_9.eq_1) := wp_of c97_9.eq_1
@[go_sem] theorem c97_10_wp : type_of% (wp_of c97_10.eq_1) := wp_of c97_10.eq_1
@[go_sem] theorem c97_11_wp : type_of% (wp_of c97_11.eq_1) := wp_of c97_11.eq_1
@[go_sem] theorem c97_12_wp : type_of% (wp_of c97_12.eq_1) := wp_of c97_12.eq_1
@[go_sem] theorem c97_13_wp : type_of% (wp_of c97_13.eq_1) := wp_of c97_13.eq_1
@[go_sem] theorem c97_14_wp : type_of% (wp_of c97_14.eq_1) := wp_of c97_14.eq_1
@[go_sem] theorem c97_15_wp : type_of% (wp_of c97_15.eq_1) := wp_of c97_15.eq_1
@[go_sem] theorem c97_16_wp : type_of% (wp_of c97_16.eq_1) := wp_of c97_16.eq_1
@[go_sem] theorem c97_17_wp : type_of% (wp_of c97_17.eq_1) := wp_of c97_17.eq_1
@[go_sem] theorem c97_18_wp : type_of% (wp_of c97_18.eq_1) := wp_of c97_18.eq_1
@[go_sem] theorem c97_19_wp : type_of% (wp_of c97_19.eq_1) := wp_of c97_19.eq_1
@[go_sem] theorem c97_20_wp : type_of% (wp_of c97_20.eq_1) := wp_of c97_20.eq_1
def c97 : AFn := ⟨28, [.t 2], c97_20⟩
set_option maxRecDepth 100000 in
theorem c97_ok : compF Tryd.prog Tryd.f97 = some c97 := by kernel_rfl
theorem a97 {args : List AV} {σ : ASt} {R : AV → ASt → Prop} (hl : args.length ≤ 28) (h : c97_20.wp Tryd.prog (RetQ [.t 2] R) (init args) σ) : ACalls Tryd.prog 97 args σ R := acalls_of Tryd.func97 c97_ok hl h

/-! 105: math/bits.Div64 -/
def c105_0 : ACode := .ops [
    ⟨(some 6), none, .q (.mv (.v (.int .u64 0))), []⟩,
    ⟨(some 7), none, .q (.mv (.v (.int .u64 0))), []⟩]
def c105_1 : ACode := .ops [
    ⟨(some 19), none, .q (.mv (.t 2)), []⟩,
    ⟨(some 20), none, .q (.bin .eql (.t 19) (.v (.int .u64 0))), []⟩]
def c105_2 : ACode := .ops [
    ⟨(some 21), none, .q (.ld none (.v (.ptr 4 0))), []⟩,
    ⟨none, none, .e (.dead), []⟩]
def c105_3 : ACode := .cond (.t 20) c105_2 .skip
def c105_4 : ACode := .seq c105_1 c105_3
def c105_5 : ACode := .ops [
    ⟨(some 22), none, .q (.mv (.t 2)), []⟩,
    ⟨(some 23), none, .q (.mv (.t 0)), []⟩,
    ⟨(some 24), none, .q (.bin .leq (.t 22) (.t 23)), []⟩]
def c105_6 : ACode := .ops [
    ⟨(some 25), none, .q (.ld none (.v (.ptr 5 0))), []⟩,
    ⟨none, none, .e (.dead), []⟩]
def c105_7 : ACode := .cond (.t 24) c105_6 .skip
def c105_8 : ACode := .seq c105_5 c105_7
def c105_9 : ACode := .ops [
    ⟨(some 26), none, .q (.mv (.t 0)), []⟩,
    ⟨(some 27), none, .q (.bin .eql (.t 26) (.v (.int .u64 0))), []⟩]
def c105_10 : ACode := .ops [
    ⟨(some 28), none, .q (.mv (.t 1)), []⟩,
    ⟨(some 29), none, .q (.mv (.t 2)), []⟩,
    ⟨(some 30), none, .q (.bin .quo (.t 28) (.t 29)), []⟩,
    ⟨(some 31), none, .q (.mv (.t 1)), []⟩,
    ⟨(some 32), none, .q (.mv (.t 2)), []⟩,
    ⟨(some 33), none, .q (.bin .rem (.t 31) (.t 32)), []⟩,
    ⟨(some 6), none, .q (.mv (.t 30)), []⟩,
    ⟨(some 7), none, .q (.mv (.t 33)), []⟩]
def c105_11 : ACode := .seq c105_10 .ret
def c105_12 : ACode := .cond (.t 27) c105_11 .skip
def c105_13 : ACode := .seq c105_9 c105_12
def c105_14 : ACode := .ops [
    ⟨(some 34), none, .q (.mv (.t 2)), []⟩,
    ⟨(some 35), none, .e (.call 115 [(.t 34)]), []⟩,
    ⟨(some 36), none, .q (.conv .u64 (.t 35)), []⟩,
    ⟨(some 8), none, .q (.mv (.t 36)), []⟩]
def c105_15 : ACode := .ops [
    ⟨(some 37), none, .q (.mv (.t 2)), []⟩,
    ⟨(some 38), none, .q (.mv (.t 8)), []⟩,
    ⟨(some 39), none, .q (.bin .shl (.t 37) (.t 38)), []⟩,
    ⟨(some 2), none, .q (.mv (.t 39)), []⟩]
def c105_16 : ACode := .ops [
    ⟨(some 40), none, .q (.mv (.t 2)), []⟩,
    ⟨(some 41), none, .q (.bin .shr (.t 40) (.v (.int .u64 32))), []⟩,
    ⟨(some 9), none, .q (.mv (.t 41)), []⟩]
def c105_17 : ACode := .ops [
    ⟨(some 42), none, .q (.mv (.t 2)), []⟩,
    ⟨(some 43), none, .q (.bin .and (.t 42) (.v (.int .u64 4294967295))), []⟩,
    ⟨(some 10), none, .q (.mv (.t 43)), []⟩]
def c105_18 : ACode := .ops [
    ⟨(some 44), none, .q (.mv (.t 0)), []⟩,
    ⟨(some 45), none, .q (.mv (.t 8)), []⟩,
    ⟨(some 46), none, .q (.bin .shl (.t 44) (.t 45)), []⟩,
    ⟨(some 47), none, .q (.mv (.t 1)), []⟩,
    ⟨(some 48), none, .q (.mv (.t 8)), []⟩,
    ⟨(some 49), none, .q (.bin .sub (.v (.int .u64 64)) (.t 48)), []⟩,
    ⟨(some 50), none, .q (.bin .shr (.t 47) (.t 49)), []⟩,
    ⟨(some 51), none, .q (.bin .or (.t 46) (.t 50)), []⟩,
    ⟨(some 11), none, .q (.mv (.t 51)), []⟩]
def c105_19 : ACode := .ops [
    ⟨(some 52), none, .q (.mv (.t 1)), []⟩,
    ⟨(some 53), none, .q (.mv (.t 8)), []⟩,
    ⟨(some 54), none, .q (.bin .shl (.t 52) (.t 53)), []⟩,
    ⟨(some 12), none, .q (.mv (.t 54)), []⟩]
def c105_20 : ACode := .ops [
    ⟨(some 55), none, .q (.mv (.t 12)), []⟩,
    ⟨(some 56), none, .q (.bin .shr (.t 55) (.v (.int .u64 32))), []⟩,
    ⟨(some 13), none, .q (.mv (.t 56)), []⟩]
def c105_21 : ACode := .ops [
    ⟨(some 57), none, .q (.mv (.t 12)), []⟩,
    ⟨(some 58), none, .q (.bin .and (.t 57) (.v (.int .u64 4294967295))), []⟩,
    ⟨(some 14), none, .q (.mv (.t 58)), []⟩]
def c105_22 : ACode := .ops [
    ⟨(some 59), none, .q (.mv (.t 11)), []⟩,
    ⟨(some 60), none, .q (.mv (.t 9)), []⟩,
    ⟨(some 61), none, .q (.bin .quo (.t 59) (.t 60)), []⟩,
    ⟨(some 15), none, .q (.mv (.t 61)), []⟩]
def c105_23 : ACode := .ops [
    ⟨(some 62), none, .q (.mv (.t 11)), []⟩,
    ⟨(some 63), none, .q (.mv (.t 15)), []⟩,
    ⟨(some 64), none, .q (.mv (.t 9)), []⟩,
    ⟨(some 65), none, .q (.bin .mul (.t 63) (.t 64)), []⟩,
    ⟨(some 66), none, .q (.bin .sub (.t 62) (.t 65)), []⟩,
    ⟨(some 16), none, .q (.mv (.t 66)), []⟩]
def c105_24 : ACode := .ops [
    ⟨(some 67), none, .q (.mv (.t 15)), []⟩,
    ⟨(some 68), none, .q (.bin .geq (.t 67) (.v (.int .u64 4294967296))), []⟩,
    ⟨(some 69), none, .q (.mv (.t 68)), []⟩,
    ⟨(some 70), (some (69, false)), .q (.mv (.t 15)), []⟩,
    ⟨(some 71), (some (69, false)), .q (.mv (.t 10)), []⟩,
    ⟨(some 72), (some (69, false)), .q (.bin .mul (.t 70) (.t 71)), []⟩,
    ⟨(some 73), (some (69, false)), .q (.mv (.t 16)), []⟩,
    ⟨(some 74), (some (69, false)), .q (.bin .mul (.v (.int .u64 4294967296)) (.t 73)), []⟩,
    ⟨(some 75), (some (69, false)), .q (.mv (.t 13)), []⟩,
    ⟨(some 76), (some (69, false)), .q (.bin .add (.t 74) (.t 75)), []⟩,
    ⟨(some 77), (some (69, false)), .q (.bin .gtr (.t 72) (.t 76)), []⟩,
    ⟨(some 78), none, .q (.pick (.t 69) (.v (.bool true)) (.t 77)), []⟩]
def c105_25 : ACode := .cond (.t 78) .skip (.exit 0)
def c105_26 : ACode := .seq c105_24 c105_25
def c105_27 : ACode := .ops [
    ⟨(some 79), none, .q (.mv (.t 15)), []⟩,
    ⟨(some 80), none, .q (.bin .sub (.t 79) (.v (.int .u64 1))), []⟩,
    ⟨(some 15), none, .q (.mv (.t 80)), []⟩]
def c105_28 : ACode := .ops [
    ⟨(some 81), none, .q (.mv (.t 16)), []⟩,
    ⟨(some 82), none, .q (.mv (.t 9)), []⟩,
    ⟨(some 83), none, .q (.bin .add (.t 81) (.t 82)), []⟩,
    ⟨(some 16), none, .q (.mv (.t 83)), []⟩]
def c105_29 : ACode := .ops [
    ⟨(some 84), none, .q (.mv (.t 16)), []⟩,
    ⟨(some 85), none, .q (.bin .geq (.t 84) (.v (.int .u64 4294967296))), []⟩]
def c105_30 : ACode := .cond (.t 85) (.exit 0) .skip
def c105_31 : ACode := .seq c105_29 c105_30
def c105_32 : ACode := .seq c105_28 c105_31
def c105_33 : ACode := .seq c105_27 c105_32
def c105_34 : ACode := .block 1 c105_33
def c105_35 : ACode := .seq c105_26 c105_34
def c105_36 : ACode := .loop c105_35
def c105_37 : ACode := .block 0 c105_36
def c105_38 : ACode := .ops [
    ⟨(some 86), none, .q (.mv (.t 11)), []⟩,
    ⟨(some 87), none, .q (.bin .mul (.t 86) (.v (.int .u64 4294967296))), []⟩,
    ⟨(some 88), none, .q (.mv (.t 13)), []⟩,
    ⟨(some 89), none, .q (.bin .add (.t 87) (.t 88)), []⟩,
    ⟨(some 90), none, .q (.mv (.t 15)), []⟩,
    ⟨(some 91), none, .q (.mv (.t 2)), []⟩,
    ⟨(some 92), none, .q (.bin .mul (.t 90) (.t 91)), []⟩,
    ⟨(some 93), none, .q (.bin .sub (.t 89) (.t 92)), []⟩,
    ⟨(some 17), none, .q (.mv (.t 93)), []⟩]
def c105_39 : ACode := .ops [
    ⟨(some 94), none, .q (.mv (.t 17)), []⟩,
    ⟨(some 95), none, .q (.mv (.t 9)), []⟩,
    ⟨(some 96), none, .q (.bin .quo (.t 94) (.t 95)), []⟩,
    ⟨(some 18), none, .q (.mv (.t 96)), []⟩]
def c105_40 : ACode := .ops [
    ⟨(some 97), none, .q (.mv (.t 17)), []⟩,
    ⟨(some 98), none, .q (.mv (.t 18)), []⟩,
    ⟨(some 99), none, .q (.mv (.t 9)), []⟩,
    ⟨(some 100), none, .q (.bin .mul (.t 98) (.t 99)), []⟩,
    ⟨(some 101), none, .q (.bin .sub (.t 97) (.t 100)), []⟩,
    ⟨(some 16), none, .q (.mv (.t 101)), []⟩]
def c105_41 : ACode := .ops [
    ⟨(some 102), none, .q (.mv (.t 18)), []⟩,
    ⟨(some 103), none, .q (.bin .geq (.t 102) (.v (.int .u64 4294967296))), []⟩,
    ⟨(some 104), none, .q (.mv (.t 103)), []⟩,
    ⟨(some 105), (some (104, false)), .q (.mv (.t 18)), []⟩,
    ⟨(some 106), (some (104, false)), .q (.mv (.t 10)), []⟩,
    ⟨(some 107), (some (104, false)), .q (.bin .mul (.t 105) (.t 106)), []⟩,
    ⟨(some 108), (some (104, false)), .q (.mv (.t 16)), []⟩,
    ⟨(some 109), (some (104, false)), .q (.bin .mul (.v (.int .u64 4294967296)) (.t 108)), []⟩,
    ⟨(some 110), (some (104, false)), .q (.mv (.t 14)), []⟩,
    ⟨(some 111), (some (104, false)), .q (.bin .add (.t 109) (.t 110)), []⟩,
    ⟨(some 112), (some (104, false)), .q (.bin .gtr (.t 107) (.t 111)), []⟩,
    ⟨(some 113), none, .q (.pick (.t 104) (.v (.bool true)) (.t 112)), []⟩]
def c105_42 : ACode := .cond (.t 113) .skip (.exit 2)
def c105_43 : ACode := .seq c105_41 c105_42
def c105_44 : ACode := .ops [
    ⟨(some 114), none, .q (.mv (.t 18)), []⟩,
    ⟨(some 115), none, .q (.bin .sub (.t 114) (.v (.int .u64 1))), []⟩,
    ⟨(some 18), none, .q (.mv (.t 115)), []⟩]
def c105_45 : ACode := .ops [
    ⟨(some 116), none, .q (.mv (.t 16)), []⟩,
    ⟨(some 117), none, .q (.mv (.t 9)), []⟩,
    ⟨(some 118), none, .q (.bin .add (.t 116) (.t 117)), []⟩,
    ⟨(some 16), none, .q (.mv (.t 118)), []⟩]
def c105_46 : ACode := .ops [
    ⟨(some 119), none, .q (.mv (.t 16)), []⟩,
    ⟨(some 120), none, .q (.bin .geq (.t 119) (.v (.int .u64 4294967296))), []⟩]
def c105_47 : ACode := .cond (.t 120) (.exit 2) .skip
def c105_48 : ACode := .seq c105_46 c105_47
def c105_49 : ACode := .seq c105_45 c105_48
def c105_50 : ACode := .seq c105_44 c105_49
def c105_51 : ACode := .block 3 c105_50
def c105_52 : ACode := .seq c105_43 c105_51
def c105_53 : ACode := .loop c105_52
def c105_54 : ACode := .block 2 c105_53
def c105_55 : ACode := .ops [
    ⟨(some 121), none, .q (.mv (.t 15)), []⟩,
    ⟨(some 122), none, .q (.bin .mul (.t 121) (.v (.int .u64 4294967296))), []⟩,
    ⟨(some 123), none, .q (.mv (.t 18)), []⟩,
    ⟨(some 124), none, .q (.bin .add (.t 122) (.t 123)), []⟩,
    ⟨(some 125), none, .q (.mv (.t 17)), []⟩,
    ⟨(some 126), none, .q (.bin .mul (.t 125) (.v (.int .u64 4294967296))), []⟩,
    ⟨(some 127), none, .q (.mv (.t 14)), []⟩,
    ⟨(some 128), none, .q (.bin .add (.t 126) (.t 127)), []⟩,
    ⟨(some 129), none, .q (.mv (.t 18)), []⟩,
    ⟨(some 130), none, .q (.mv (.t 2)), []⟩,
    ⟨(some 131), none, .q (.bin .mul (.t 129) (.t 130)), []⟩,
    ⟨(some 132), none, .q (.bin .sub (.t 128) (.t 131)), []⟩,
    ⟨(some 133), none, .q (.mv (.t 8)), []⟩,
    ⟨(some 134), none, .q (.bin .shr (.t 132) (.t 133)), []⟩,
    ⟨(some 6), none, .q (.mv (.t 124)), []⟩,
    ⟨(some 7), none, .q (.mv (.t 134)), []⟩]
def c105_56 : ACode := .seq c105_55 .ret
def c105_57 : ACode := .seq c105_54 c105_56
def c105_58 : ACode := .seq c105_40 c105_57
def c105_59 : ACode := .seq c105_39 c105_58
def c105_60 : ACode := .seq c105_38 c105_59
def c105_61 : ACode := .seq c105_37 c105_60
def c105_62 : ACode := .seq c105_23 c105_61
def c105_63 : ACode := .seq c105_22 c105_62
def c105_64 : ACode := .seq c105_21 c105_63
def c105_65 : ACode := .seq c105_20 c105_64
def c105_66 : ACode := .seq c105_19 c105_65
def c105_67 : ACode := .seq c105_18 c105_66
def c105_68 : ACode := .seq c105_17 c105_67
def c105_69 : ACode := .seq c105_16 c105_68
def c105_70 : ACode := .seq c105_15 c105_69
def c105_71 : ACode := .seq c105_14 c105_70
def c105_72 : ACode := .seq c105_13 c105_71
def c105_73 : ACode := .seq c105_8 c105_72
def c105_74 : ACode := .seq c105_4 c105_73
def c105_75 : ACode := .seq c105_0 c105_74
@[go_sem] theorem c105_0_wp : type_of% (wp_of c105_0.eq_1) := wp_of c105_0.eq_1
@[go_sem] theorem c105_1_wp : type_of% (wp_of c105_1.eq_1) := wp_of c105_1.eq_1
@[go_sem] theorem c105_2_wp : type_of% (wp_of c105_2.eq_1) := wp_of c105_2.eq_1
@[go_sem] theorem c105_3_wp : type_of% (wp_of c105_3.eq_1) := wp_of c105_3.eq_1
@[go_sem] theorem c105_4_wp : type_of% (wp_of c105_4.eq_1) := wp_of c105_4.eq_1
@[go_sem] theorem c105_5_wp : type_of% (wp_of c105_5.eq_1) := wp_of c105_5.eq_1
@[go_sem] theorem c105_6_wp : type_of% (wp_of c105_6.eq_1) := wp_of c105_6.eq_1
@[go_sem] theorem c105_7_wp : type_of% (wp_of c105_7.eq_1) := wp_of c105_7.eq_1
@[go_sem] theorem c105_8_wp : type_of% (wp_of c105_8.eq_1) := wp_of c105_8.eq_1
@[go_sem] theorem c105_9_wp : type_of% (wp_of c105_9.eq_1) := wp_of c105_9.eq_1
@[go_sem] theorem c105_10_wp : type_of% (wp_of c105_10.eq_1) := wp_of c105_10.eq_1
@[go_sem] theorem c105_11_wp : type_of% (wp_of c105_11.eq_1) := wp_of c105_11.eq_1
@[go_sem] theorem c105_12_wp : type_of% (wp_of c105_12.eq_1) := wp_of c105_12.eq_1
@[go_sem] theorem c105_13_wp : type_of% (wp_of c105_13.eq_1) := wp_of c105_13.eq_1
@[go_sem] theorem c105_14_wp : type_of% (wp_of c105_14.eq_1) := wp_of c105_14.eq_1
@[go_sem] theorem c105_15_wp : type_of% (wp_of c105_15.eq_1) := wp_of c105_15.eq_1
@[go_sem] theorem c105_16_wp : type_of% (wp_of c105_16.eq_1) := wp_of c105_16.eq_1
@[go_sem] theorem c105_17_wp : type_of% (wp_of c105_17.eq_1) := wp_of c105_17.eq_1
@[go_sem] theorem c105_18_wp : type_of% (wp_of c105_18.eq_1) := wp_of c105_18.eq_1
@[go_sem] theorem c105_19_wp : type_of% (wp_of c105_19.eq_1) := wp_of c105_19.eq_1
@[go_sem] theorem c105_20_wp : type_of% (wp_of c105_20.eq_1) := wp_of c105_20.eq_1
@[go_sem] theorem c105_21_wp : type_of% (wp_of c105_21.eq_1) := wp_of c105_21.eq_1
@[go_sem] theorem c105_22_wp : type_of% (wp_of c105_22.eq_1) := wp_of c105_22.eq_1
@[go_sem] theorem c105_23_wp : type_of% (wp_of c105_23.eq_1) := wp_of c105_23.eq_1
@[go_sem] theorem c105_24_wp : type_of% (wp_of c105_24.eq_1) := wp_of c105_24.eq_1
@[go_sem] theorem c105_25_wp : type_of% (wp_of c105_25.eq_1) := wp_of c105_25.eq_1
@[go_sem] theorem c105_26_wp : type_of% (wp_of c105_26.eq_1) := wp_of c105_26.eq_1
@[go_sem] theorem c105_27_wp : type_of% (wp_of c105_27.eq_1) := wp_of c105_27.eq_1
@[go_sem] theorem c105_28_wp : type_of% (wp_of c105_28.eq_1) := wp_of c105_28.eq_1
@[go_sem] theorem c105_29_wp : type_of% (wp_of c105_29.eq_1) := wp_of c105_29.eq_1
@[go_sem] theorem c105_30_wp : type_of% (wp_of c105_30.eq_1) := wp_of c105_30.eq_1
@[go_sem] theorem c105_31_wp : type_of% (wp_of c105_31.eq_1) := wp_of c105_31.eq_1
@[go_sem] theorem c105_32_wp : type_of% (wp_of c105_32.eq_1) := wp_of c105_32.eq_1
@[go_sem] theorem c105_33_wp : type_of% (wp_of c105_33.eq_1) := wp_of c105_33.eq_1
@[go_sem] theorem c105_34_wp : type_of% (wp_of c105_34.eq_1) := wp_of c105_34.eq_1
@[go_sem] theorem c105_35_wp : type_of% (wp_of c105_35.eq_1) := wp_of c105_35.eq_1
@[go_sem] theorem c105_36_wp : type_of% (wp_of c105_36.eq_1) := wp_of c105_36.eq_1
@[go_sem] theorem c105_37_wp : type_of% (wp_of c105_37.eq_1) := wp_of c105_37.eq_1
@[go_sem] theorem c105_38_wp : type_of% (wp_of c105_38.eq_1) := wp_of c105_38.eq_1
@[go_sem] theorem c105_39_wp : type_of% (wp_of c105_39.eq_1) := wp_of c105_39.eq_1
@[go_sem] theorem c105_40_wp : type_of% (wp_of c105_40.eq_1) := wp_of c105_40.eq_1
@[go_sem] theorem c105_41_wp : type_of% (wp_of c105_41.eq_1) := wp_of c105_41.eq_1
@[go_sem] theorem c105_42_wp : type_of% (wp_of c105_42.eq_1) := wp_of c105_42.eq_1
@[go_sem] theorem c105_43_wp : type_of% (wp_of c105_43.eq_1) := wp_of c105_43.eq_1
@[go_sem] theorem c105_44_wp : type_of% (wp_of c105_44.eq_1) := wp_of c105_44.eq_1
@[go_sem] theorem c105_45_wp : type_of% (wp_of c105_45.eq_1) := wp_of c105_45.eq_1
@[go_sem] theorem c105_46_wp : type_of% (wp_of c105_46.eq_1) := wp_of c105_46.eq_1
@[go_sem] theorem c105_47_wp : type_of% (wp_of c105_47.eq_1) := wp_of c105_47.eq_1
@[go_sem] theorem c105_48_wp : type_of% (wp_of c105_48.eq_1) := wp_of c105_48.eq_1
@[go_sem] theorem c105_49_wp : type_of% (wp_of c105_49.eq_1) := wp_of c105_49.eq_1
@[go_sem] theorem c105_50_wp : type_of% (wp_of c105_50.eq_1) := wp_of c105_50.eq_1
@[go_sem] theorem c105_51_wp : type_of% (wp_of c105_51.eq_1) := wp_of c105_51.eq_1
@[go_sem] theorem c105_52_wp : type_of% (wp_of c105_52.eq_1) := wp_of c105_52.eq_1
@[go_sem] theorem c105_53_wp : type_of% (wp_of c105_53.eq_1) := wp_of c105_53.eq_1
@[go_sem] theorem c105_54_wp : type_of% (wp_of c105_54.eq_1) := wp_of c105_54.eq_1
@[go_sem] theorem c105_55_wp : type_of% (wp_of c105_55.eq_1) := wp_of c105_55.eq_1
@[go_sem] theorem c105_56_wp : type_of% (wp_of c105_56.eq_1) := wp_of c105_56.eq_1
@[go_sem] theorem c105_57_wp : type_of% (wp_of c105_57.eq_1) := wp_of c105_57.eq_1
@[go_sem] theorem c105_58_wp : type_of% (wp_of c105_58.eq_1) := wp_of c105_58.eq_1
@[go_sem] theorem c105_59_wp : type_of% (wp_of c105_59.eq_1) := wp_of c105_59.eq_1
@[go_sem] theorem c105_60_wp : type_of% (wp_of c105_60.eq_1) := wp_of c105_60.eq_1
@[go_sem] theorem c105_61_wp : type_of% (wp_of c105_61.eq_1) := wp_of c105_61.eq_1
@[go_sem] theorem c105_62_wp : type_of% (wp_of c105_62.eq_1) := wp_of c105_62.eq_1
@[go_sem] theorem c105_63_wp : type_of% (wp_of c105_63.eq_1) := wp_of c105_63.eq_1
@[go_sem] theorem c105_64_wp : type_of% (wp_of c105_64.eq_1) := wp_of c105_64.eq_1
@[go_sem] theorem c105_65_wp : type_of% (wp_of c105_65.eq_1) := wp_of c105_65.eq_1
@[go_sem] theorem c105_66_wp : type_of% (wp_of c105_66.eq_1) := wp_of c105_66.eq_1
@[go_sem] theorem c105_67_wp : type_of% (wp_of c105_67.eq_1) := wp_of c105_67.eq_1
@[go_sem] theorem c105_68_wp : type_of% (wp_of c105_68.eq_1) := wp_of c105_68.eq_1
@[go_sem] theorem c105_69_wp : type_of% (wp_of c105_69.eq_1) := wp_of c105_69.eq_1
@[go_sem] theorem c105_70_wp : type_of% (wp_of c105_70.eq_1) := wp_of c105_70.eq_1
@[go_sem] theorem c105_71_wp : type_of% (wp_of c105_71.eq_1) := wp_of c105_71.eq_1
@[go_sem] theorem c105_72_wp : type_of% (wp_of c105_72.eq_1) := wp_of c105_72.eq_1
@[go_sem] theorem c105_73_wp : type_of% (wp_of c105_73.eq_1) := wp_of c105_73.eq_1
@[go_sem] theorem c105_74_wp : type_of% (wp_of c105_74.eq_1) := wp_of c105_74.eq_1
@[go_sem] theorem c105_75_wp : type_of% (wp_of c105_75.eq_1) := wp_of c105_75.eq_1
def c105 : AFn := ⟨135, [.t 6, .t 7], c105_75⟩
set_option maxRecDepth 100000 in
theorem c105_ok : compF Tryd.prog Tryd.f105 = some c105 := by kernel_rfl
theorem a105 {args : List AV} {σ : ASt} {R : AV → ASt → Prop} (hl : args.length ≤ 135) (h : c105_75.wp Tryd.prog (RetQ [.t 6, .t 7] R) (init args) σ) : ACalls Tryd.prog 105 args σ R := acalls_of Tryd.func105 c105_ok hl h

/-! 107: strconv.FormatUint -/
def c107_0 : ACode := .ops [
    ⟨(some 4), none, .q (.mv (.v (.str []))), []⟩]
def c107_1 : ACode := .ops [
    ⟨(some 5), none, .q (.mv (.t 0)), []⟩,
    ⟨(some 6), none, .q (.mv (.t 1)), []⟩,
    ⟨(some 7), none, .e (.call 116 [(.t 5), (.t 6)]), []⟩,
    ⟨(some 4), none, .q (.mv (.t 7)), []⟩]
def c107_2 : ACode := .seq c107_1 .ret
def c107_3 : ACode := .seq c107_0 c107_2
@[go_sem] theorem c107_0_wp : type_of% (wp_of c107_0.eq_1) := wp_of c107_0.eq_1
@[go_sem] theorem c107_1_wp : type_of% (wp_of c107_1.eq_1) := wp_of c107_1.eq_1
@[go_sem] theorem c107_2_wp : type_of% (wp_of c107_2.eq_1) := wp_of c107_2.eq_1
@[go_sem] theorem c107_3_wp : type_of% (wp_of c107_3.eq_1) := wp_of c107_3.eq_1
def c107 : AFn := ⟨8, [.t 4], c107_3⟩
set_option maxRecDepth 100000 in
theorem c107_ok : compF Tryd.prog Tryd.f107 = some c107 := by kernel_rfl
theorem a107 {args : List AV} {σ : ASt} {R : AV → ASt → Prop} (hl : args.length ≤ 8) (h : c107_3.wp Tryd.prog (RetQ [.t 4] R) (init args) σ) : ACalls Tryd.prog 107 args σ R := acalls_of Tryd.func107 c107_ok hl h

/-! 115: math/bits.LeadingZeros64 -/
def c115_0 : ACode := .ops [
    ⟨(some 2), none, .q (.mv (.v (.int .i64 0))), []⟩]
def c115_1 : ACode := .ops [
    ⟨(some 3), none, .q (.mv (.t 0)), []⟩,
    ⟨(some 4), none, .e (.call 121 [(.t 3)]), []⟩,
    ⟨(some 5), none, .q (.bin .sub (.v (.int .i64 64)) (.t 4)), []⟩,
    ⟨(some 2), none, .q (.mv (.t 5)), []⟩]
def c115_2 : ACode := .seq c115_1 .ret
def c115_3 : ACode := .seq c115_0 c115_2
@[go_sem] theorem c115_0_wp : type_of% (wp_of c115_0.eq_1) := wp_of c115_0.eq_1
@[go_sem] theorem c115_1_wp : type_of% (wp_of c115_1.eq_1) := wp_of c115_1.eq_1
@[go_sem] theorem c115_2_wp : type_of% (wp_of c115_2.eq_1) := wp_of c115_2.eq_1
@[go_sem] theorem c115_3_wp : type_of% (wp_of c115_3.eq_1) := wp_of c115_3.eq_1
def c115 : AFn := ⟨6, [.t 2], c115_3⟩
set_option maxRecDepth 100000 in
theorem c115_ok : compF Tryd.prog Tryd.f115 = some c115 := by kernel_rfl
theorem a115 {args : List AV} {σ : ASt} {R : AV → ASt → Prop} (hl : args.length ≤ 6) (h : c115_3.wp Tryd.prog (RetQ [.t 2] R) (init args) σ) : ACalls Tryd.prog 115 args σ R := acalls_of Tryd.func115 c115_ok hl h

end Go.A
