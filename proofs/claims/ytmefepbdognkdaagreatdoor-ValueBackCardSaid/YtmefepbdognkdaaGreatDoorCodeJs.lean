/- The functions, compiled: by program (wip/gencode.py). -/
import Derived.Test.YtmefepbdognkdaaGreatDoorBk
import Derived.Test.YtmefepbdognkdaaGreatDoorProg
import Derived.KernelRfl
namespace Go.A
open Go.Proofs

/-! 30: tabular/value.Put -/
def c30_0 : ACode := .ops [
    ⟨(some 5), none, .q (.mv (.t 1)), []⟩,
    ⟨(some 6), none, .e (.call 37 [(.t 5)]), []⟩,
    ⟨(some 4), none, .e (.alloc [(.int .i64 0), (.int .i64 0), (.str [])]), []⟩,
    ⟨none, none, .e (.store 3 (.t 4) (.t 6)), []⟩]
def c30_1 : ACode := .ops [
    ⟨(some 7), none, .q (.mv (.t 0)), []⟩,
    ⟨(some 8), none, .q (.fa 0 (.t 4)), []⟩,
    ⟨(some 9), none, .q (.ld none (.t 8)), []⟩,
    ⟨(some 10), none, .q (.conv .u64 (.t 9)), []⟩,
    ⟨(some 11), none, .e (.call 103 [(.t 7), (.t 10)]), []⟩]
def c30_2 : ACode := .ops [
    ⟨(some 12), none, .q (.fa 0 (.t 4)), []⟩,
    ⟨(some 13), none, .q (.ld none (.t 12)), []⟩]
def c30_3 : ACode := .ops [
    ⟨(some 15), none, .q (.bin .eql (.t 13) (.v (.int .i64 1))), []⟩,
    ⟨(some 14), none, .q (.mv (.t 15)), []⟩]
def c30_4 : ACode := .ops [
    ⟨(some 16), none, .q (.bin .eql (.t 13) (.v (.int .i64 3))), []⟩,
    ⟨(some 14), none, .q (.mv (.t 16)), []⟩]
def c30_5 : ACode := .ops [
    ⟨(some 17), none, .q (.bin .eql (.t 13) (.v (.int .i64 4))), []⟩,
    ⟨(some 14), none, .q (.mv (.t 17)), []⟩]
def c30_6 : ACode := .cond (.t 14) .skip c30_5
def c30_7 : ACode := .seq c30_4 c30_6
def c30_8 : ACode := .cond (.t 14) .skip c30_7
def c30_9 : ACode := .seq c30_3 c30_8
def c30_10 : ACode := .ops [
    ⟨(some 18), none, .q (.mv (.t 0)), []⟩,
    ⟨(some 19), none, .q (.fa 1 (.t 4)), []⟩,
    ⟨(some 20), none, .q (.ld none (.t 19)), []⟩,
    ⟨(some 21), none, .e (.call 104 [(.t 18), (.t 20)]), []⟩]
def c30_11 : ACode := .ops [
    ⟨(some 23), none, .q (.bin .eql (.t 13) (.v (.int .i64 2))), []⟩,
    ⟨(some 22), none, .q (.mv (.t 23)), []⟩]
def c30_12 : ACode := .ops [
    ⟨(some 24), none, .q (.mv (.t 0)), []⟩,
    ⟨(some 25), none, .q (.fa 2 (.t 4)), []⟩,
    ⟨(some 26), none, .q (.ld none (.t 25)), []⟩,
    ⟨(some 27), none, .e (.call 105 [(.t 24), (.t 26)]), []⟩]
def c30_13 : ACode := .cond (.t 22) c30_12 .skip
def c30_14 : ACode := .seq c30_11 c30_13
def c30_15 : ACode := .cond (.t 14) c30_10 c30_14
def c30_16 : ACode := .seq c30_9 c30_15
def c30_17 : ACode := .block 0 c30_16
def c30_18 : ACode := .seq c30_2 c30_17
def c30_19 : ACode := .seq c30_1 c30_18
def c30_20 : ACode := .seq c30_0 c30_19
@[go_sem] theorem c30_0_wp : type_of% (wp_of c30_0.eq_1) := wp_of c30_0.eq_1
@[go_sem] theorem c30_1_wp : type_of% (wp_of c30_1.eq_1) := wp_of c30_1.eq_1
@[go_sem] theorem c30_2_wp : type_of% (wp_of c30_2.eq_1) := wp_of c30_2.eq_1
@[go_sem] theorem c30_3_wp : type_of% (wp_of c30_3.eq_1) := wp_of c30_3.eq_1
@[go_sem] theorem c30_4_wp : type_of% (wp_of c30_4.eq_1) := wp_of c30_4.eq_1
@[go_sem] theorem c30_5_wp : type_of% (wp_of c30_5.eq_1) := wp_of c30_5.eq_1
@[go_sem] theorem c30_6_wp : type_of% (wp_of c30_6.eq_1) := wp_of c30_6.eq_1
@[go_sem] theorem c30_7_wp : type_of% (wp_of c30_7.eq_1) := wp_of c30_7.eq_1
@[go_sem] theorem c30_8_wp : type_of% (wp_of c30_8.eq_1) := wp_of c30_8.eq_1
@[go_sem] theorem c30_9_wp : type_of% (wp_of c30_9.eq_1) := wp_of c30_9.eq_1
@[go_sem] theorem c30_10_wp : type_of% (wp_of c30_10.eq_1) := wp_of c30_10.eq_1
@[go_sem] theorem c30_11_wp : type_of% (wp_of c30_11.eq_1) := wp_of c30_11.eq_1
@[go_sem] theorem c30_12_wp : type_of% (wp_of c30_12.eq_1) := wp_of c30_12.eq_1
@[go_sem] theorem c30_13_wp : type_of% (wp_of c30_13.eq_1) := wp_of c30_13.eq_1
@[go_sem] theorem c30_14_wp : type_of% (wp_of c30_14.eq_1) := wp_of c30_14.eq_1
@[go_sem] theorem c30_15_wp : type_of% (wp_of c30_15.eq_1) := wp_of c30_15.eq_1
@[go_sem] theorem c30_16_wp : type_of% (wp_of c30_16.eq_1) := wp_of c30_16.eq_1
@[go_sem] theorem c30_17_wp : type_of% (wp_of c30_17.eq_1) := wp_of c30_17.eq_1
@[go_sem] theorem c30_18_wp : type_of% (wp_of c30_18.eq_1) := wp_of c30_18.eq_1
@[go_sem] theorem c30_19_wp : type_of% (wp_of c30_19.eq_1) := wp_of c30_19.eq_1
@[go_sem] theorem c30_20_wp : type_of% (wp_of c30_20.eq_1) := wp_of c30_20.eq_1
def c30 : AFn := ⟨28, [], c30_20⟩
set_option maxRecDepth 100000 in
theorem c30_ok : compF Tryz.prog Tryz.f30 = some c30 := by kernel_rfl
theorem a30 {args : List AV} {σ : ASt} {R : AV → ASt → Prop} (hl : args.length ≤ 28) (h : c30_20.wp Tryz.prog (RetQ [] R) (init args) σ) : ACalls Tryz.prog 30 args σ R := acalls_of Tryz.func30 c30_ok hl h

/-! 33: tabular/value.Get -/
def c33_0 : ACode := .ops [
    ⟨(some 2), none, .q (.mv (.v .nili)), []⟩,
    ⟨(some 3), none, .q (.mv (.v (.int .i64 0))), []⟩]
def c33_1 : ACode := .ops [
    ⟨(some 6), none, .q (.mv (.t 0)), []⟩,
    ⟨(some 7), none, .e (.call 106 [(.t 6)]), []⟩,
    ⟨(some 8), none, .q (.mnx false (.t 7) (.v (.int .u64 9))), []⟩,
    ⟨(some 9), none, .q (.conv .i64 (.t 8)), []⟩,
    ⟨(some 10), none, .q (.build [(.int .i64 0), (.int .i64 0), (.str [])] [(0, 1, (.t 9))]), []⟩,
    ⟨(some 4), none, .e (.alloc [(.int .i64 0), (.int .i64 0), (.str [])]), []⟩,
    ⟨none, none, .e (.store 3 (.t 4) (.t 10)), []⟩]
def c33_2 : ACode := .ops [
    ⟨(some 11), none, .q (.fa 0 (.t 4)), []⟩,
    ⟨(some 12), none, .q (.ld none (.t 11)), []⟩]
def c33_3 : ACode := .ops [
    ⟨(some 14), none, .q (.bin .eql (.t 12) (.v (.int .i64 1))), []⟩,
    ⟨(some 13), none, .q (.mv (.t 14)), []⟩]
def c33_4 : ACode := .ops [
    ⟨(some 15), none, .q (.bin .eql (.t 12) (.v (.int .i64 3))), []⟩,
    ⟨(some 13), none, .q (.mv (.t 15)), []⟩]
def c33_5 : ACode := .ops [
    ⟨(some 16), none, .q (.bin .eql (.t 12) (.v (.int .i64 4))), []⟩,
    ⟨(some 13), none, .q (.mv (.t 16)), []⟩]
def c33_6 : ACode := .cond (.t 13) .skip c33_5
def c33_7 : ACode := .seq c33_4 c33_6
def c33_8 : ACode := .cond (.t 13) .skip c33_7
def c33_9 : ACode := .seq c33_3 c33_8
def c33_10 : ACode := .ops [
    ⟨(some 17), none, .q (.mv (.t 0)), []⟩,
    ⟨(some 18), none, .e (.call 107 [(.t 17)]), []⟩,
    ⟨(some 19), none, .q (.fa 1 (.t 4)), []⟩,
    ⟨none, none, .e (.store 1 (.t 19) (.t 18)), []⟩]
def c33_11 : ACode := .ops [
    ⟨(some 21), none, .q (.bin .eql (.t 12) (.v (.int .i64 2))), []⟩,
    ⟨(some 20), none, .q (.mv (.t 21)), []⟩]
def c33_12 : ACode := .ops [
    ⟨(some 22), none, .q (.mv (.t 0)), []⟩,
    ⟨(some 23), none, .e (.call 108 [(.t 22), (.v (.int .i64 2000))]), []⟩,
    ⟨(some 24), none, .q (.fa 2 (.t 4)), []⟩,
    ⟨none, none, .e (.store 1 (.t 24) (.t 23)), []⟩]
def c33_13 : ACode := .cond (.t 20) c33_12 .skip
def c33_14 : ACode := .seq c33_11 c33_13
def c33_15 : ACode := .cond (.t 13) c33_10 c33_14
def c33_16 : ACode := .seq c33_9 c33_15
def c33_17 : ACode := .block 0 c33_16
def c33_18 : ACode := .seq c33_2 c33_17
def c33_19 : ACode := .ops [
    ⟨(some 25), none, .q (.mv (.t 0)), []⟩,
    ⟨(some 26), none, .e (.call 109 [(.t 25)]), []⟩,
    ⟨(some 27), none, .q (.bin .neq (.t 26) (.v (.int .i64 0))), []⟩]
def c33_20 : ACode := .ops [
    ⟨(some 28), none, .q (.build [] []), []⟩,
    ⟨(some 29), none, .q (.mki 143 (.t 28)), []⟩,
    ⟨(some 30), none, .q (.mv (.t 0)), []⟩,
    ⟨(some 31), none, .e (.call 109 [(.t 30)]), []⟩,
    ⟨(some 2), none, .q (.mv (.t 29)), []⟩,
    ⟨(some 3), none, .q (.mv (.t 31)), []⟩]
def c33_21 : ACode := .seq c33_20 .ret
def c33_22 : ACode := .cond (.t 27) c33_21 .skip
def c33_23 : ACode := .seq c33_19 c33_22
def c33_24 : ACode := .ops [
    ⟨(some 32), none, .q (.ld (some 3) (.t 4)), []⟩,
    ⟨(some 33), none, .e (.call 60 [(.t 32)]), []⟩,
    ⟨(some 5), none, .q (.mv (.t 33)), []⟩]
def c33_25 : ACode := .ops [
    ⟨(some 34), none, .q (.mv (.t 5)), []⟩,
    ⟨(some 36), none, .q (.ld (some 3) (.t 4)), []⟩,
    ⟨(some 35), none, .e (.call 37 [(.t 34)]), [⟨none, .ld (some 3) (.t 4), 36⟩]⟩,
    ⟨(some 37), none, .q (.eqs true [(0, 0), (1, 0), (2, 2)] (.t 35) (.t 36)), []⟩]
def c33_26 : ACode := .ops [
    ⟨(some 38), none, .q (.build [] []), []⟩,
    ⟨(some 39), none, .q (.mki 143 (.t 38)), []⟩,
    ⟨(some 2), none, .q (.mv (.t 39)), []⟩,
    ⟨(some 3), none, .q (.mv (.v (.int .i64 3))), []⟩]
def c33_27 : ACode := .seq c33_26 .ret
def c33_28 : ACode := .cond (.t 37) c33_27 .skip
def c33_29 : ACode := .seq c33_25 c33_28
def c33_30 : ACode := .ops [
    ⟨(some 40), none, .q (.mv (.t 5)), []⟩,
    ⟨(some 2), none, .q (.mv (.t 40)), []⟩,
    ⟨(some 3), none, .q (.mv (.v (.int .i64 0))), []⟩]
def c33_31 : ACode := .seq c33_30 .ret
def c33_32 : ACode := .seq c33_29 c33_31
def c33_33 : ACode := .seq c33_24 c33_32
def c33_34 : ACode := .seq c33_23 c33_33
def c33_35 : ACode := .seq c33_18 c33_34
def c33_36 : ACode := .seq c33_1 c33_35
def c33_37 : ACode := .seq c33_0 c33_36
@[go_sem] theorem c33_0_wp : type_of% (wp_of c33_0.eq_1) := wp_of c33_0.eq_1
@[go_sem] theorem c33_1_wp : type_of% (wp_of c33_1.eq_1) := wp_of c33_1.eq_1
@[go_sem] theorem c33_2_wp : type_of% (wp_of c33_2.eq_1) := wp_of c33_2.eq_1
@[go_sem] theorem c33_3_wp : type_of% (wp_of c33_3.eq_1) := wp_of c33_3.eq_1
@[go_sem] theorem c33_4_wp : type_of% (wp_of c33_4.eq_1) := wp_of c33_4.eq_1
@[go_sem] theorem c33_5_wp : type_of% (wp_of c33_5.eq_1) := wp_of c33_5.eq_1
@[go_sem] theorem c33_6_wp : type_of% (wp_of c33_6.eq_1) := wp_of c33_6.eq_1
@[go_sem] theorem c33_7_wp : type_of% (wp_of c33_7.eq_1) := wp_of c33_7.eq_1
@[go_sem] theorem c33_8_wp : type_of% (wp_of c33_8.eq_1) := wp_of c33_8.eq_1
@[go_sem] theorem c33_9_wp : type_of% (wp_of c33_9.eq_1) := wp_of c33_9.eq_1
@[go_sem] theorem c33_10_wp : type_of% (wp_of c33_10.eq_1) := wp_of c33_10.eq_1
@[go_sem] theorem c33_11_wp : type_of% (wp_of c33_11.eq_1) := wp_of c33_11.eq_1
@[go_sem] theorem c33_12_wp : type_of% (wp_of c33_12.eq_1) := wp_of c33_12.eq_1
@[go_sem] theorem c33_13_wp : type_of% (wp_of c33_13.eq_1) := wp_of c33_13.eq_1
@[go_sem] theorem c33_14_wp : type_of% (wp_of c33_14.eq_1) := wp_of c33_14.eq_1
@[go_sem] theorem c33_15_wp : type_of% (wp_of c33_15.eq_1) := wp_of c33_15.eq_1
@[go_sem] theorem c33_16_wp : type_of% (wp_of c33_16.eq_1) := wp_of c33_16.eq_1
@[go_sem] theorem c33_17_wp : type_of% (wp_of c33_17.eq_1) := wp_of c33_17.eq_1
@[go_sem] theorem c33_18_wp : type_of% (wp_of c33_18.eq_1) := wp_of c33_18.eq_1
@[go_sem] theorem c33_19_wp : type_of% (wp_of c33_19.eq_1) := wp_of c33_19.eq_1
@[go_sem] theorem c33_20_wp : type_of% (wp_of c33_20.eq_1) := wp_of c33_20.eq_1
@[go_sem] theorem c33_21_wp : type_of% (wp_of c33_21.eq_1) := wp_of c33_21.eq_1
@[go_sem] theorem c33_22_wp : type_of% (wp_of c33_22.eq_1) := wp_of c33_22.eq_1
@[go_sem] theorem c33_23_wp : type_of% (wp_of c33_23.eq_1) := wp_of c33_23.eq_1
@[go_sem] theorem c33_24_wp : type_of% (wp_of c33_24.eq_1) := wp_of c33_24.eq_1
@[go_sem] theorem c33_25_wp : type_of% (wp_of c33_25.eq_1) := wp_of c33_25.eq_1
@[go_sem] theorem c33_26_wp : type_of% (wp_of c33_26.eq_1) := wp_of c33_26.eq_1
@[go_sem] theorem c33_27_wp : type_of% (wp_of c33_27.eq_1) := wp_of c33_27.eq_1
@[go_sem] theorem c33_28_wp : type_of% (wp_of c33_28.eq_1) := wp_of c33_28.eq_1
@[go_sem] theorem c33_29_wp : type_of% (wp_of c33_29.eq_1) := wp_of c33_29.eq_1
@[go_sem] theorem c33_30_wp : type_of% (wp_of c33_30.eq_1) := wp_of c33_30.eq_1
@[go_sem] theorem c33_31_wp : type_of% (wp_of c33_31.eq_1) := wp_of c33_31.eq_1
@[go_sem] theorem c33_32_wp : type_of% (wp_of c33_32.eq_1) := wp_of c33_32.eq_1
@[go_sem] theorem c33_33_wp : type_of% (wp_of c33_33.eq_1) := wp_of c33_33.eq_1
@[go_sem] theorem c33_34_wp : type_of% (wp_of c33_34.eq_1) := wp_of c33_34.eq_1
@[go_sem] theorem c33_35_wp : type_of% (wp_of c33_35.eq_1) := wp_of c33_35.eq_1
@[go_sem] theorem c33_36_wp : type_of% (wp_of c33_36.eq_1) := wp_of c33_36.eq_1
@[go_sem] theorem c33_37_wp : type_of% (wp_of c33_37.eq_1) := wp_of c33_37.eq_1
def c33 : AFn := ⟨41, [.t 2, .t 3], c33_37⟩
set_option maxRecDepth 100000 in
theorem c33_ok : compF Tryz.prog Tryz.f33 = some c33 := by kernel_rfl
theorem a33 {args : List AV} {σ : ASt} {R : AV → ASt → Prop} (hl : args.length ≤ 41) (h : c33_37.wp Tryz.prog (RetQ [.t 2, .t 3] R) (init args) σ) : ACalls Tryz.prog 33 args σ R := acalls_of Tryz.func33 c33_ok hl h

end Go.A
