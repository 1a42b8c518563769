/- The functions, compiled: by program (wip/gencode.py). -/
import Derived.Test.YtkfcfpnkgljdmaaDoorBk
import Derived.Test.YtkfcfpnkgljdmaaDoorProg
import Derived.KernelRfl
namespace Go.A
open Go.Proofs

/-! 10: tabular/tabularlaw12.place -/
def c10_0 : ACode := .ops [
    ⟨(some 1), none, .e (.box (.t 0)), []⟩,
    ⟨(some 2), none, .e (.alloc [(.int .i64 0), (.int .i64 0), (.bool false), (.bool false)]), []⟩]
def c10_1 : ACode := .ops [
    ⟨(some 3), none, .q (.fa 0 (.t 1)), []⟩,
    ⟨(some 4), none, .q (.ld none (.t 3)), []⟩,
    ⟨(some 5), none, .q (.bin .rem (.t 4) (.v (.int .i64 3000))), []⟩,
    ⟨(some 6), none, .q (.bin .add (.t 5) (.v (.int .i64 3000))), []⟩,
    ⟨(some 7), none, .q (.bin .rem (.t 6) (.v (.int .i64 3000))), []⟩,
    ⟨(some 8), none, .q (.fa 0 (.t 1)), []⟩,
    ⟨none, none, .e (.store 1 (.t 8) (.t 7)), []⟩]
def c10_2 : ACode := .ops [
    ⟨(some 9), none, .q (.fa 1 (.t 1)), []⟩,
    ⟨(some 10), none, .q (.ld none (.t 9)), []⟩,
    ⟨(some 11), none, .q (.bin .rem (.t 10) (.v (.int .i64 700))), []⟩,
    ⟨(some 12), none, .q (.bin .add (.t 11) (.v (.int .i64 700))), []⟩,
    ⟨(some 13), none, .q (.bin .rem (.t 12) (.v (.int .i64 700))), []⟩,
    ⟨(some 14), none, .q (.fa 1 (.t 1)), []⟩,
    ⟨none, none, .e (.store 1 (.t 14) (.t 13)), []⟩]
def c10_3 : ACode := .ops [
    ⟨(some 15), none, .q (.ld (some 4) (.t 1)), []⟩,
    ⟨none, none, .e (.store 4 (.t 2) (.t 15)), []⟩]
def c10_4 : ACode := .seq c10_3 .ret
def c10_5 : ACode := .seq c10_2 c10_4
def c10_6 : ACode := .seq c10_1 c10_5
def c10_7 : ACode := .seq c10_0 c10_6
@[go_sem] theorem c10_0_wp : type_of% (wp_of c10_0.eq_1) := wp_of c10_0.eq_1
@[go_sem] theorem c10_1_wp : type_of% (wp_of c10_1.eq_1) := wp_of c10_1.eq_1
@[go_sem] theorem c10_2_wp : type_of% (wp_of c10_2.eq_1) := wp_of c10_2.eq_1
@[go_sem] theorem c10_3_wp : type_of% (wp_of c10_3.eq_1) := wp_of c10_3.eq_1
@[go_sem] theorem c10_4_wp : type_of% (wp_of c10_4.eq_1) := wp_of c10_4.eq_1
@[go_sem] theorem c10_5_wp : type_of% (wp_of c10_5.eq_1) := wp_of c10_5.eq_1
@[go_sem] theorem c10_6_wp : type_of% (wp_of c10_6.eq_1) := wp_of c10_6.eq_1
@[go_sem] theorem c10_7_wp : type_of% (wp_of c10_7.eq_1) := wp_of c10_7.eq_1
def c10 : AFn := ⟨16, [.c 2 (some 4)], c10_7⟩
set_option maxRecDepth 100000 in
theorem c10_ok : compF Tryd.prog Tryd.f10 = some c10 := by kernel_rfl
theorem a10 {args : List AV} {σ : ASt} {R : AV → ASt → Prop} (hl : args.length ≤ 16) (h : c10_7.wp Tryd.prog (RetQ [.c 2 (some 4)] R) (init args) σ) : ACalls Tryd.prog 10 args σ R := acalls_of Tryd.func10 c10_ok hl h

/-! 20: tabular/tabularlaw12.grow -/
def c20_0 : ACode := .ops [
    ⟨(some 4), none, .e (.alloc [(.int .i64 0), (.int .i64 0), (.str []), (.int .i64 0), (.int .i64 0), (.bool false), (.bool false), (.int .i64 0), (.int .i64 0), (.bool false), (.bool false), (.sl .full [])]), []⟩,
    ⟨(some 5), none, .q (.mv (.v (.int .i64 0))), []⟩]
def c20_1 : ACode := .ops [
    ⟨(some 14), none, .q (.mv (.t 1)), []⟩,
    ⟨(some 15), none, .q (.mv (.t 0)), []⟩,
    ⟨(some 16), none, .q (.len (.t 15)), []⟩,
    ⟨(some 17), none, .q (.bin .geq (.t 14) (.t 16)), []⟩]
def c20_2 : ACode := .ops [
    ⟨(some 18), none, .q (.build [(.int .i64 0), (.int .i64 0), (.str []), (.int .i64 0), (.int .i64 0), (.bool false), (.bool false), (.int .i64 0), (.int .i64 0), (.bool false), (.bool false), (.sl .full [])] [(0, 1, (.v (.int .i64 1)))]), []⟩,
    ⟨(some 19), none, .q (.mv (.t 1)), []⟩,
    ⟨none, none, .e (.store 12 (.t 4) (.t 18)), []⟩,
    ⟨(some 5), none, .q (.mv (.t 19)), []⟩]
def c20_3 : ACode := .seq c20_2 .ret
def c20_4 : ACode := .cond (.t 17) c20_3 .skip
def c20_5 : ACode := .seq c20_1 c20_4
def c20_6 : ACode := .ops [
    ⟨(some 20), none, .q (.mv (.t 0)), []⟩,
    ⟨(some 21), none, .q (.mv (.t 1)), []⟩,
    ⟨(some 22), none, .q (.ia 11 (.t 20) (.t 21)), []⟩,
    ⟨(some 23), none, .q (.ld (some 11) (.t 22)), []⟩,
    ⟨(some 6), none, .e (.alloc [(.int .i64 0), (.int .i64 0), (.str []), (.int .i64 0), (.int .i64 0), (.bool false), (.bool false), (.int .i64 0), (.int .i64 0), (.bool false), (.bool false)]), []⟩,
    ⟨none, none, .e (.store 11 (.t 6) (.t 23)), []⟩]
def c20_7 : ACode := .ops [
    ⟨(some 24), none, .q (.mv (.t 1)), []⟩,
    ⟨(some 25), none, .q (.bin .add (.t 24) (.v (.int .i64 1))), []⟩,
    ⟨(some 1), none, .q (.mv (.t 25)), []⟩]
def c20_8 : ACode := .ops [
    ⟨(some 26), none, .q (.fa 0 (.t 6)), []⟩,
    ⟨(some 27), none, .q (.ld none (.t 26)), []⟩,
    ⟨(some 28), none, .q (.bin .rem (.t 27) (.v (.int .i64 23))), []⟩,
    ⟨(some 29), none, .q (.bin .add (.t 28) (.v (.int .i64 23))), []⟩,
    ⟨(some 30), none, .q (.bin .rem (.t 29) (.v (.int .i64 23))), []⟩,
    ⟨(some 31), none, .q (.bin .add (.v (.int .i64 1)) (.t 30)), []⟩,
    ⟨(some 32), none, .q (.build [(.int .i64 0), (.int .i64 0), (.str []), (.int .i64 0), (.int .i64 0), (.bool false), (.bool false), (.int .i64 0), (.int .i64 0), (.bool false), (.bool false), (.sl .full [])] [(0, 1, (.t 31))]), []⟩,
    ⟨(some 7), none, .e (.alloc [(.int .i64 0), (.int .i64 0), (.str []), (.int .i64 0), (.int .i64 0), (.bool false), (.bool false), (.int .i64 0), (.int .i64 0), (.bool false), (.bool false), (.sl .full [])]), []⟩,
    ⟨none, none, .e (.store 12 (.t 7) (.t 32)), []⟩]
def c20_9 : ACode := .ops [
    ⟨(some 8), none, .q (.mv (.v (.int .i64 0))), []⟩]
def c20_10 : ACode := .ops [
    ⟨(some 33), none, .q (.fa 1 (.t 6)), []⟩,
    ⟨(some 34), none, .q (.ld none (.t 33)), []⟩,
    ⟨(some 35), none, .q (.bin .rem (.t 34) (.v (.int .i64 100000))), []⟩,
    ⟨(some 36), none, .q (.bin .add (.t 35) (.v (.int .i64 100000))), []⟩,
    ⟨(some 37), none, .q (.bin .rem (.t 36) (.v (.int .i64 100000))), []⟩,
    ⟨(some 9), none, .q (.mv (.t 37)), []⟩]
def c20_11 : ACode := .ops [
    ⟨(some 38), none, .q (.fa 0 (.t 7)), []⟩,
    ⟨(some 39), none, .q (.ld none (.t 38)), []⟩]
def c20_12 : ACode := .ops [
    ⟨(some 41), none, .q (.bin .eql (.t 39) (.v (.int .i64 1))), []⟩,
    ⟨(some 40), none, .q (.mv (.t 41)), []⟩]
def c20_13 : ACode := .ops [
    ⟨(some 42), none, .q (.mv (.t 9)), []⟩,
    ⟨(some 43), none, .q (.fa 1 (.t 7)), []⟩,
    ⟨none, none, .e (.store 1 (.t 43) (.t 42)), []⟩]
def c20_14 : ACode := .ops [
    ⟨(some 45), none, .q (.bin .eql (.t 39) (.v (.int .i64 3))), []⟩,
    ⟨(some 44), none, .q (.mv (.t 45)), []⟩]
def c20_15 : ACode := .ops [
    ⟨(some 46), none, .q (.mv (.t 9)), []⟩,
    ⟨(some 47), none, .q (.bin .rem (.t 46) (.v (.int .i64 2))), []⟩,
    ⟨(some 48), none, .q (.fa 1 (.t 7)), []⟩,
    ⟨none, none, .e (.store 1 (.t 48) (.t 47)), []⟩]
def c20_16 : ACode := .ops [
    ⟨(some 50), none, .q (.bin .eql (.t 39) (.v (.int .i64 4))), []⟩,
    ⟨(some 49), none, .q (.mv (.t 50)), []⟩]
def c20_17 : ACode := .ops [
    ⟨(some 51), none, .q (.mv (.t 9)), []⟩,
    ⟨(some 52), none, .q (.bin .rem (.t 51) (.v (.int .i64 7))), []⟩,
    ⟨(some 53), none, .q (.bin .add (.v (.int .i64 1)) (.t 52)), []⟩,
    ⟨(some 54), none, .q (.bin .mul (.t 53) (.v (.int .i64 10000))), []⟩,
    ⟨(some 55), none, .q (.fa 1 (.t 7)), []⟩,
    ⟨none, none, .e (.store 1 (.t 55) (.t 54)), []⟩]
def c20_18 : ACode := .ops [
    ⟨(some 57), none, .q (.bin .eql (.t 39) (.v (.int .i64 2))), []⟩,
    ⟨(some 56), none, .q (.mv (.t 57)), []⟩]
def c20_19 : ACode := .ops [
    ⟨(some 59), none, .q (.fa 2 (.t 6)), []⟩,
    ⟨(some 60), none, .q (.ld none (.t 59)), []⟩,
    ⟨(some 61), none, .e (.call 35 [(.t 60), (.v (.int .i64 20))]), []⟩,
    ⟨(some 62), none, .e (.call 34 [(.t 61)]), []⟩,
    ⟨(some 58), none, .q (.mv (.t 62)), []⟩,
    ⟨(some 63), none, .q (.ext 0 (.t 58)), []⟩,
    ⟨(some 64), none, .q (.ext 1 (.t 58)), []⟩,
    ⟨(some 10), none, .q (.mv (.t 63)), []⟩,
    ⟨(some 11), none, .q (.mv (.t 64)), []⟩]
def c20_20 : ACode := .ops [
    ⟨(some 65), none, .q (.mv (.t 11)), []⟩]
def c20_21 : ACode := .ops [
    ⟨(some 66), none, .q (.fa 2 (.t 6)), []⟩,
    ⟨(some 67), none, .q (.ld none (.t 66)), []⟩,
    ⟨(some 68), none, .e (.call 35 [(.t 67), (.v (.int .i64 20))]), []⟩,
    ⟨(some 69), none, .q (.fa 2 (.t 7)), []⟩,
    ⟨none, none, .e (.store 1 (.t 69) (.t 68)), []⟩]
def c20_22 : ACode := .cond (.t 65) c20_21 .skip
def c20_23 : ACode := .seq c20_20 c20_22
def c20_24 : ACode := .seq c20_19 c20_23
def c20_25 : ACode := .ops [
    ⟨(some 71), none, .q (.bin .eql (.t 39) (.v (.int .i64 5))), []⟩,
    ⟨(some 70), none, .q (.mv (.t 71)), []⟩]
def c20_26 : ACode := .ops [
    ⟨(some 72), none, .q (.fa 3 (.t 6)), []⟩,
    ⟨(some 73), none, .q (.ld (some 4) (.t 72)), []⟩,
    ⟨(some 74), none, .e (.call 10 [(.t 73)]), []⟩,
    ⟨(some 75), none, .q (.fa 3 (.t 7)), []⟩,
    ⟨none, none, .e (.store 4 (.t 75) (.t 74)), []⟩]
def c20_27 : ACode := .ops [
    ⟨(some 77), none, .q (.bin .eql (.t 39) (.v (.int .i64 6))), []⟩,
    ⟨(some 76), none, .q (.mv (.t 77)), []⟩]
def c20_28 : ACode := .ops [
    ⟨(some 78), none, .q (.fa 3 (.t 6)), []⟩,
    ⟨(some 79), none, .q (.ld (some 4) (.t 78)), []⟩,
    ⟨(some 80), none, .e (.call 10 [(.t 79)]), []⟩,
    ⟨(some 81), none, .q (.fa 3 (.t 7)), []⟩,
    ⟨none, none, .e (.store 4 (.t 81) (.t 80)), []⟩]
def c20_29 : ACode := .ops [
    ⟨(some 82), none, .q (.fa 7 (.t 6)), []⟩,
    ⟨(some 83), none, .q (.ld (some 4) (.t 82)), []⟩,
    ⟨(some 84), none, .e (.call 10 [(.t 83)]), []⟩,
    ⟨(some 85), none, .q (.fa 7 (.t 7)), []⟩,
    ⟨none, none, .e (.store 4 (.t 85) (.t 84)), []⟩]
def c20_30 : ACode := .seq c20_28 c20_29
def c20_31 : ACode := .ops [
    ⟨(some 87), none, .q (.bin .eql (.t 39) (.v (.int .i64 7))), []⟩,
    ⟨(some 86), none, .q (.mv (.t 87)), []⟩]
def c20_32 : ACode := .ops [
    ⟨(some 88), none, .q (.bin .eql (.t 39) (.v (.int .i64 8))), []⟩,
    ⟨(some 86), none, .q (.mv (.t 88)), []⟩]
def c20_33 : ACode := .ops [
    ⟨(some 89), none, .q (.bin .eql (.t 39) (.v (.int .i64 9))), []⟩,
    ⟨(some 86), none, .q (.mv (.t 89)), []⟩]
def c20_34 : ACode := .cond (.t 86) .skip c20_33
def c20_35 : ACode := .seq c20_32 c20_34
def c20_36 : ACode := .cond (.t 86) .skip c20_35
def c20_37 : ACode := .seq c20_31 c20_36
def c20_38 : ACode := .ops [
    ⟨(some 8), none, .q (.mv (.v (.int .i64 1))), []⟩]
def c20_39 : ACode := .ops [
    ⟨(some 91), none, .q (.bin .eql (.t 39) (.v (.int .i64 23))), []⟩,
    ⟨(some 90), none, .q (.mv (.t 91)), []⟩]
def c20_40 : ACode := .ops [
    ⟨(some 92), none, .q (.build [(.int .i64 0), (.int .i64 0), (.str []), (.int .i64 0), (.int .i64 0), (.bool false), (.bool false), (.int .i64 0), (.int .i64 0), (.bool false), (.bool false), (.sl .full [])] [(0, 1, (.v (.int .i64 3)))]), []⟩,
    ⟨none, none, .e (.store 12 (.t 7) (.t 92)), []⟩]
def c20_41 : ACode := .ops [
    ⟨(some 94), none, .q (.bin .eql (.t 39) (.v (.int .i64 22))), []⟩,
    ⟨(some 93), none, .q (.mv (.t 94)), []⟩]
def c20_42 : ACode := .ops [
    ⟨(some 95), none, .q (.bsl 1 [(.v (.str [83, 85, 77])), (.v (.str [73, 70])), (.v (.str [88, 46, 89])), (.v (.str [95, 65]))]), []⟩,
    ⟨(some 96), none, .q (.mv (.t 9)), []⟩,
    ⟨(some 97), none, .q (.bin .rem (.t 96) (.v (.int .i64 4))), []⟩,
    ⟨(some 98), none, .q (.ia 1 (.t 95) (.t 97)), []⟩,
    ⟨(some 99), none, .q (.ld none (.t 98)), []⟩,
    ⟨(some 100), none, .q (.fa 2 (.t 7)), []⟩,
    ⟨none, none, .e (.store 1 (.t 100) (.t 99)), []⟩]
def c20_43 : ACode := .ops [
    ⟨(some 101), none, .q (.mv (.t 9)), []⟩,
    ⟨(some 102), none, .q (.bin .quo (.t 101) (.v (.int .i64 4))), []⟩,
    ⟨(some 103), none, .q (.bin .rem (.t 102) (.v (.int .i64 4))), []⟩,
    ⟨(some 8), none, .q (.mv (.t 103)), []⟩]
def c20_44 : ACode := .seq c20_42 c20_43
def c20_45 : ACode := .ops [
    ⟨(some 8), none, .q (.mv (.v (.int .i64 2))), []⟩]
def c20_46 : ACode := .cond (.t 93) c20_44 c20_45
def c20_47 : ACode := .seq c20_41 c20_46
def c20_48 : ACode := .cond (.t 90) c20_40 c20_47
def c20_49 : ACode := .seq c20_39 c20_48
def c20_50 : ACode := .cond (.t 86) c20_38 c20_49
def c20_51 : ACode := .seq c20_37 c20_50
def c20_52 : ACode := .cond (.t 76) c20_30 c20_51
def c20_53 : ACode := .seq c20_27 c20_52
def c20_54 : ACode := .cond (.t 70) c20_26 c20_53
def c20_55 : ACode := .seq c20_25 c20_54
def c20_56 : ACode := .cond (.t 56) c20_24 c20_55
def c20_57 : ACode := .seq c20_18 c20_56
def c20_58 : ACode := .cond (.t 49) c20_17 c20_57
def c20_59 : ACode := .seq c20_16 c20_58
def c20_60 : ACode := .cond (.t 44) c20_15 c20_59
def c20_61 : ACode := .seq c20_14 c20_60
def c20_62 : ACode := .cond (.t 40) c20_13 c20_61
def c20_63 : ACode := .seq c20_12 c20_62
def c20_64 : ACode := .block 0 c20_63
def c20_65 : ACode := .seq c20_11 c20_64
def c20_66 : ACode := .ops [
    ⟨(some 104), none, .q (.mv (.t 8)), []⟩,
    ⟨(some 105), none, .q (.bin .gtr (.t 104) (.v (.int .i64 0))), []⟩]
def c20_67 : ACode := .cond (.t 105) .skip (.exit 1)
def c20_68 : ACode := .seq c20_66 c20_67
def c20_69 : ACode := .ops [
    ⟨(some 109), none, .q (.mv (.t 0)), []⟩,
    ⟨(some 110), none, .q (.mv (.t 1)), []⟩,
    ⟨(some 111), none, .e (.call 20 [(.t 109), (.t 110)]), []⟩,
    ⟨(some 108), none, .q (.mv (.t 111)), []⟩,
    ⟨(some 112), none, .q (.ext 0 (.t 108)), []⟩,
    ⟨(some 113), none, .q (.ext 1 (.t 108)), []⟩,
    ⟨(some 12), none, .e (.alloc [(.int .i64 0), (.int .i64 0), (.str []), (.int .i64 0), (.int .i64 0), (.bool false), (.bool false), (.int .i64 0), (.int .i64 0), (.bool false), (.bool false), (.sl .full [])]), []⟩,
    ⟨none, none, .e (.store 12 (.t 12) (.t 112)), []⟩,
    ⟨(some 13), none, .q (.mv (.t 113)), []⟩]
def c20_70 : ACode := .ops [
    ⟨(some 114), none, .q (.mv (.t 13)), []⟩,
    ⟨(some 1), none, .q (.mv (.t 114)), []⟩]
def c20_71 : ACode := .ops [
    ⟨(some 115), none, .q (.fa 11 (.t 7)), []⟩,
    ⟨(some 116), none, .q (.ld none (.t 115)), []⟩,
    ⟨(some 117), none, .q (.ld (some 12) (.t 12)), []⟩,
    ⟨(some 118), none, .q (.bsl 12 [(.t 117)]), []⟩,
    ⟨(some 119), none, .e (.app 28 12 104 [(.int .i64 0), (.int .i64 0), (.str []), (.int .i64 0), (.int .i64 0), (.bool false), (.bool false), (.int .i64 0), (.int .i64 0), (.bool false), (.bool false), (.sl .full [])] (.t 116) (.t 118)), []⟩,
    ⟨(some 120), none, .q (.fa 11 (.t 7)), []⟩,
    ⟨none, none, .e (.store 1 (.t 120) (.t 119)), []⟩]
def c20_72 : ACode := .seq c20_70 c20_71
def c20_73 : ACode := .seq c20_69 c20_72
def c20_74 : ACode := .block 2 c20_73
def c20_75 : ACode := .ops [
    ⟨(some 106), none, .q (.mv (.t 8)), []⟩,
    ⟨(some 107), none, .q (.bin .sub (.t 106) (.v (.int .i64 1))), []⟩,
    ⟨(some 8), none, .q (.mv (.t 107)), []⟩]
def c20_76 : ACode := .seq c20_74 c20_75
def c20_77 : ACode := .seq c20_68 c20_76
def c20_78 : ACode := .loop c20_77
def c20_79 : ACode := .block 1 c20_78
def c20_80 : ACode := .ops [
    ⟨(some 121), none, .q (.fa 0 (.t 7)), []⟩,
    ⟨(some 122), none, .q (.ld none (.t 121)), []⟩,
    ⟨(some 123), none, .q (.bin .eql (.t 122) (.v (.int .i64 22))), []⟩,
    ⟨(some 124), none, .q (.mv (.t 123)), []⟩,
    ⟨(some 125), (some (124, true)), .q (.fa 11 (.t 7)), []⟩,
    ⟨(some 126), (some (124, true)), .q (.ld none (.t 125)), []⟩,
    ⟨(some 127), (some (124, true)), .q (.len (.t 126)), []⟩,
    ⟨(some 128), (some (124, true)), .q (.bin .gtr (.t 127) (.v (.int .i64 1))), []⟩,
    ⟨(some 129), none, .q (.pick (.t 124) (.t 128) (.v (.bool false))), []⟩,
    ⟨(some 130), none, .q (.mv (.t 129)), []⟩,
    ⟨(some 131), (some (130, true)), .q (.mv (.t 9)), []⟩,
    ⟨(some 132), (some (130, true)), .q (.bin .rem (.t 131) (.v (.int .i64 3))), []⟩,
    ⟨(some 133), (some (130, true)), .q (.bin .eql (.t 132) (.v (.int .i64 0))), []⟩,
    ⟨(some 134), none, .q (.pick (.t 130) (.t 133) (.v (.bool false))), []⟩]
def c20_81 : ACode := .ops [
    ⟨(some 135), none, .q (.fa 11 (.t 7)), []⟩,
    ⟨(some 136), none, .q (.ld none (.t 135)), []⟩,
    ⟨(some 137), none, .q (.build [(.int .i64 0), (.int .i64 0), (.str []), (.int .i64 0), (.int .i64 0), (.bool false), (.bool false), (.int .i64 0), (.int .i64 0), (.bool false), (.bool false), (.sl .full [])] [(0, 1, (.v (.int .i64 23)))]), []⟩,
    ⟨(some 138), none, .q (.ia 12 (.t 136) (.v (.int .i64 0))), []⟩,
    ⟨none, none, .e (.store 12 (.t 138) (.t 137)), []⟩]
def c20_82 : ACode := .cond (.t 134) c20_81 .skip
def c20_83 : ACode := .seq c20_80 c20_82
def c20_84 : ACode := .ops [
    ⟨(some 139), none, .q (.ld (some 12) (.t 7)), []⟩,
    ⟨(some 140), none, .q (.mv (.t 1)), []⟩,
    ⟨none, none, .e (.store 12 (.t 4) (.t 139)), []⟩,
    ⟨(some 5), none, .q (.mv (.t 140)), []⟩]
def c20_85 : ACode := .seq c20_84 .ret
def c20_86 : ACode := .seq c20_83 c20_85
def c20_87 : ACode := .seq c20_79 c20_86
def c20_88 : ACode := .seq c20_65 c20_87
def c20_89 : ACode := .seq c20_10 c20_88
def c20_90 : ACode := .seq c20_9 c20_89
def c20_91 : ACode := .seq c20_8 c20_90
def c20_92 : ACode := .seq c20_7 c20_91
def c20_93 : ACode := .seq c20_6 c20_92
def c20_94 : ACode := .seq c20_5 c20_93
def c20_95 : ACode := .seq c20_0 c20_94
@[go_sem] theorem c20_0_wp : type_of% (wp_of c20_0.eq_1) := wp_of c20_0.eq_1
@[go_sem] theorem c20_1_wp : type_of% (wp_of c20_1.eq_1) := wp_of c20_1.eq_1
@[go_sem] theorem c20_2_wp : type_of% (wp_of c20_2.eq_1) := wp_of c20_2.eq_1
@[go_sem] theorem c20_3_wp : type_of% (wp_of c20_3.eq_1) := wp_of c20_3.eq_1
@[go_sem] theorem c20_4_wp : type_of% (wp_of c20_4.eq_1) := wp_of c20_4.eq_1
@[go_sem] theorem c20_5_wp : type_of% (wp_of c20_5.eq_1) := wp_of c20_5.eq_1
@[go_sem] theorem c20_6_wp : type_of% (wp_of c20_6.eq_1) := wp_of c20_6.eq_1
@[go_sem] theorem c20_7_wp : type_of% (wp_of c20_7.eq_1) := wp_of c20_7.eq_1
@[go_sem] theorem c20_8_wp : type_of% (wp_of c20_8.eq_1) := wp_of c20_8.eq_1
@[go_sem] theorem c20_9_wp : type_of% (wp_of c20_9.eq_1) := wp_of c20_9.eq_1
@[go_sem] theorem c20_10_wp : type_of% (wp_of c20_10.eq_1) := wp_of c20_10.eq_1
@[go_sem] theorem c20_11_wp : type_of% (wp_of c20_11.eq_1) := wp_of c20_11.eq_1
@[go_sem] theorem c20_12_wp : type_of% (wp_of c20_12.eq_1) := wp_of c20_12.eq_1
@[go_sem] theorem c20_13_wp : type_of% (wp_of c20_13.eq_1) := wp_of c20_13.eq_1
@[go_sem] theorem c20_14_wp : type_of% (wp_of c20_14.eq_1) := wp_of c20_14.eq_1
@[go_sem] theorem c20_15_wp : type_of% (wp_of c20_15.eq_1) := wp_of c20_15.eq_1
@[go_sem] theorem c20_16_wp : type_of% (wp_of c20_16.eq_1) := wp_of c20_16.eq_1
@[go_sem] theorem c20_17_wp : type_of% (wp_of c20_17.eq_1) := wp_of c20_17.eq_1
@[go_sem] theorem c20_18_wp : type_of% (wp_of c20_18.eq_1) := wp_of c20_18.eq_1
@[go_sem] theorem c20_19_wp : type_of% (wp_of c20_19.eq_1) := wp_of c20_19.eq_1
@[go_sem] theorem c20_20_wp : type_of% (wp_of c20_20.eq_1) := wp_of c20_20.eq_1
@[go_sem] theorem c20_21_wp : type_of% (wp_of c20_21.eq_1) := wp_of c20_21.eq_1
@[go_sem] theorem c20_22_wp : type_of% (wp_of c20_22.eq_1) := wp_of c20_22.eq_1
@[go_sem] theorem c20_23_wp : type_of% (wp_of c20_23.eq_1) := wp_of c20_23.eq_1
@[go_sem] theorem c20_24_wp : type_of% (wp_of c20_24.eq_1) := wp_of c20_24.eq_1
@[go_sem] theorem c20_25_wp : type_of% (wp_of c20_25.eq_1) := wp_of c20_25.eq_1
@[go_sem] theorem c20_26_wp : type_of% (wp_of c20_26.eq_1) := wp_of c20_26.eq_1
@[go_sem] theorem c20_27_wp : type_of% (wp_of c20_27.eq_1) := wp_of c20_27.eq_1
@[go_sem] theorem c20_28_wp : type_of% (wp_of c20_28.eq_1) := wp_of c20_28.eq_1
@[go_sem] theorem c20_29_wp : type_of% (wp_of c20_29.eq_1) := wp_of c20_29.eq_1
@[go_sem] theorem c20_30_wp : type_of% (wp_of c20_30.eq_1) := wp_of c20_30.eq_1
@[go_sem] theorem c20_31_wp : type_of% (wp_of c20_31.eq_1) := wp_of c20_31.eq_1
@[go_sem] theorem c20_32_wp : type_of% (wp_of c20_32.eq_1) := wp_of c20_32.eq_1
@[go_sem] theorem c20_33_wp : type_of% (wp_of c20_33.eq_1) := wp_of c20_33.eq_1
@[go_sem] theorem c20_34_wp : type_of% (wp_of c20_34.eq_1) := wp_of c20_34.eq_1
@[go_sem] theorem c20_35_wp : type_of% (wp_of c20_35.eq_1) := wp_of c20_35.eq_1
@[go_sem] theorem c20_36_wp : type_of% (wp_of c20_36.eq_1) := wp_of c20_36.eq_1
@[go_sem] theorem c20_37_wp : type_of% (wp_of c20_37.eq_1) := wp_of c20_37.eq_1
@[go_sem] theorem c20_38_wp : type_of% (wp_of c20_38.eq_1) := wp_of c20_38.eq_1
@[go_sem] theorem c20_39_wp : type_of% (wp_of c20_39.eq_1) := wp_of c20_39.eq_1
@[go_sem] theorem c20_40_wp : type_of% (wp_of c20_40.eq_1) := wp_of c20_40.eq_1
@[go_sem] theorem c20_41_wp : type_of% (wp_of c20_41.eq_1) := wp_of c20_41.eq_1
@[go_sem] theorem c20_42_wp : type_of% (wp_of c20_42.eq_1) := wp_of c20_42.eq_1
@[go_sem] theorem c20_43_wp : type_of% (wp_of c20_43.eq_1) := wp_of c20_43.eq_1
@[go_sem] theorem c20_44_wp : type_of% (wp_of c20_44.eq_1) := wp_of c20_44.eq_1
@[go_sem] theorem c20_45_wp : type_of% (wp_of c20_45.eq_1) := wp_of c20_45.eq_1
@[go_sem] theorem c20_46_wp : type_of% (wp_of c20_46.eq_1) := wp_of c20_46.eq_1
@[go_sem] theorem c20_47_wp : type_of% (wp_of c20_47.eq_1) := wp_of c20_47.eq_1
@[go_sem] theorem c20_48_wp : type_of% (wp_of c20_48.eq_1) := wp_of c20_48.eq_1
@[go_sem] theorem c20_49_wp : type_of% (wp_of c20_49.eq_1) := wp_of c20_49.eq_1
@[go_sem] theorem c20_50_wp : type_of% (wp_of c20_50.eq_1) := wp_of c20_50.eq_1
@[go_sem] theorem c20_51_wp : type_of% (wp_of c20_51.eq_1) := wp_of c20_51.eq_1
@[go_sem] theorem c20_52_wp : type_of% (wp_of c20_52.eq_1) := wp_of c20_52.eq_1
@[go_sem] theorem c20_53_wp : type_of% (wp_of c20_53.eq_1) := wp_of c20_53.eq_1
@[go_sem] theorem c20_54_wp : type_of% (wp_of c20_54.eq_1) := wp_of c20_54.eq_1
@[go_sem] theorem c20_55_wp : type_of% (wp_of c20_55.eq_1) := wp_of c20_55.eq_1
@[go_sem] theorem c20_56_wp : type_of% (wp_of c20_56.eq_1) := wp_of c20_56.eq_1
@[go_sem] theorem c20_57_wp : type_of% (wp_of c20_57.eq_1) := wp_of c20_57.eq_1
@[go_sem] theorem c20_58_wp : type_of% (wp_of c20_58.eq_1) := wp_of c20_58.eq_1
@[go_sem] theorem c20_59_wp : type_of% (wp_of c20_59.eq_1) := wp_of c20_59.eq_1
@[go_sem] theorem c20_60_wp : type_of% (wp_of c20_60.eq_1) := wp_of c20_60.eq_1
@[go_sem] theorem c20_61_wp : type_of% (wp_of c20_61.eq_1) := wp_of c20_61.eq_1
@[go_sem] theorem c20_62_wp : type_of% (wp_of c20_62.eq_1) := wp_of c20_62.eq_1
@[go_sem] theorem c20_63_wp : type_of% (wp_of c20_63.eq_1) := wp_of c20_63.eq_1
@[go_sem] theorem c20_64_wp : type_of% (wp_of c20_64.eq_1) := wp_of c20_64.eq_1
@[go_sem] theorem c20_65_wp : type_of% (wp_of c20_65.eq_1) := wp_of c20_65.eq_1
@[go_sem] theorem c20_66_wp : type_of% (wp_of c20_66.eq_1) := wp_of c20_66.eq_1
@[go_sem] theorem c20_67_wp : type_of% (wp_of c20_67.eq_1) := wp_of c20_67.eq_1
@[go_sem] theorem c20_68_wp : type_of% (wp_of c20_68.eq_1) := wp_of c20_68.eq_1
@[go_sem] theorem c20_69_wp : type_of% (wp_of c20_69.eq_1) := wp_of c20_69.eq_1
@[go_sem] theorem c20_70_wp : type_of% (wp_of c20_70.eq_1) := wp_of c20_70.eq_1
@[go_sem] theorem c20_71_wp : type_of% (wp_of c20_71.eq_1) := wp_of c20_71.eq_1
@[go_sem] theorem c20_72_wp : type_of% (wp_of c20_72.eq_1) := wp_of c20_72.eq_1
@[go_sem] theorem c20_73_wp : type_of% (wp_of c20_73.eq_1) := wp_of c20_73.eq_1
@[go_sem] theorem c20_74_wp : type_of% (wp_of c20_74.eq_1) := wp_of c20_74.eq_1
@[go_sem] theorem c20_75_wp : type_of% (wp_of c20_75.eq_1) := wp_of c20_75.eq_1
@[go_sem] theorem c20_76_wp : type_of% (wp_of c20_76.eq_1) := wp_of c20_76.eq_1
@[go_sem] theorem c20_77_wp : type_of% (wp_of c20_77.eq_1) := wp_of c20_77.eq_1
@[go_sem] theorem c20_78_wp : type_of% (wp_of c20_78.eq_1) := wp_of c20_78.eq_1
@[go_sem] theorem c20_79_wp : type_of% (wp_of c20_79.eq_1) := wp_of c20_79.eq_1
@[go_sem] theorem c20_80_wp : type_of% (wp_of c20_80.eq_1) := wp_of c20_80.eq_1
@[go_sem] theorem c20_81_wp : type_of% (wp_of c20_81.eq_1) := wp_of c20_81.eq_1
@[go_sem] theorem c20_82_wp : type_of% (wp_of c20_82.eq_1) := wp_of c20_82.eq_1
@[go_sem] theorem c20_83_wp : type_of% (wp_of c20_83.eq_1) := wp_of c20_83.eq_1
@[go_sem] theorem c20_84_wp : type_of% (wp_of c20_84.eq_1) := wp_of c20_84.eq_1
@[go_sem] theorem c20_85_wp : type_of% (wp_of c20_85.eq_1) := wp_of c20_85.eq_1
@[go_sem] theorem c20_86_wp : type_of% (wp_of c20_86.eq_1) := wp_of c20_86.eq_1
@[go_sem] theorem c20_87_wp : type_of% (wp_of c20_87.eq_1) := wp_of c20_87.eq_1
@[go_sem] theorem c20_88_wp : type_of% (wp_of c20_88.eq_1) := wp_of c20_88.eq_1
@[go_sem] theorem c20_89_wp : type_of% (wp_of c20_89.eq_1) := wp_of c20_89.eq_1
@[go_sem] theorem c20_90_wp : type_of% (wp_of c20_90.eq_1) := wp_of c20_90.eq_1
@[go_sem] theorem c20_91_wp : type_of% (wp_of c20_91.eq_1) := wp_of c20_91.eq_1
@[go_sem] theorem c20_92_wp : type_of% (wp_of c20_92.eq_1) := wp_of c20_92.eq_1
@[go_sem] theorem c20_93_wp : type_of% (wp_of c20_93.eq_1) := wp_of c20_93.eq_1
@[go_sem] theorem c20_94_wp : type_of% (wp_of c20_94.eq_1) := wp_of c20_94.eq_1
@[go_sem] theorem c20_95_wp : type_of% (wp_of c20_95.eq_1) := wp_of c20_95.eq_1
def c20 : AFn := ⟨141, [.c 4 (some 12), .t 5], c20_95⟩
set_option maxRecDepth 100000 in
theorem c20_ok : compF Tryd.prog Tryd.f20 = some c20 := by kernel_rfl
theorem a20 {args : List AV} {σ : ASt} {R : AV → ASt → Prop} (hl : args.length ≤ 141) (h : c20_95.wp Tryd.prog (RetQ [.c 4 (some 12), .t 5] R) (init args) σ) : ACalls Tryd.prog 20 args σ R := acalls_of Tryd.func20 c20_ok hl h

/-! 34: tabular/tabularref11.Signs -/
def c34_0 : ACode := .ops [
    ⟨(some 2), none, .q (.mv (.v (.int .i64 0))), []⟩,
    ⟨(some 3), none, .q (.mv (.v (.bool false))), []⟩]
def c34_1 : ACode := .ops [
    ⟨(some 4), none, .q (.mv (.v (.int .i64 0))), []⟩]
def c34_2 : ACode := .ops [
    ⟨(some 5), none, .q (.mv (.v (.int .i64 0))), []⟩]
def c34_3 : ACode := .ops [
    ⟨(some 7), none, .q (.mv (.t 5)), []⟩,
    ⟨(some 8), none, .q (.mv (.t 0)), []⟩,
    ⟨(some 9), none, .q (.lenS (.t 8)), []⟩,
    ⟨(some 10), none, .q (.bin .lss (.t 7) (.t 9)), []⟩]
def c34_4 : ACode := .cond (.t 10) .skip (.exit 0)
def c34_5 : ACode := .seq c34_3 c34_4
def c34_6 : ACode := .ops [
    ⟨(some 11), none, .q (.mv (.t 0)), []⟩,
    ⟨(some 12), none, .q (.mv (.t 5)), []⟩,
    ⟨(some 13), none, .e (.call 48 [(.t 11), (.t 12)]), []⟩,
    ⟨(some 6), none, .q (.mv (.t 13)), []⟩]
def c34_7 : ACode := .ops [
    ⟨(some 14), none, .q (.mv (.t 6)), []⟩,
    ⟨(some 15), none, .q (.bin .eql (.t 14) (.v (.int .i64 0))), []⟩]
def c34_8 : ACode := .ops [
    ⟨(some 2), none, .q (.mv (.v (.int .i64 0))), []⟩,
    ⟨(some 3), none, .q (.mv (.v (.bool false))), []⟩]
def c34_9 : ACode := .seq c34_8 .ret
def c34_10 : ACode := .cond (.t 15) c34_9 .skip
def c34_11 : ACode := .seq c34_7 c34_10
def c34_12 : ACode := .ops [
    ⟨(some 16), none, .q (.mv (.t 5)), []⟩,
    ⟨(some 17), none, .q (.mv (.t 6)), []⟩,
    ⟨(some 18), none, .q (.bin .add (.t 16) (.t 17)), []⟩,
    ⟨(some 5), none, .q (.mv (.t 18)), []⟩]
def c34_13 : ACode := .ops [
    ⟨(some 19), none, .q (.mv (.t 4)), []⟩,
    ⟨(some 20), none, .q (.bin .add (.t 19) (.v (.int .i64 1))), []⟩,
    ⟨(some 4), none, .q (.mv (.t 20)), []⟩]
def c34_14 : ACode := .seq c34_12 c34_13
def c34_15 : ACode := .seq c34_11 c34_14
def c34_16 : ACode := .seq c34_6 c34_15
def c34_17 : ACode := .block 1 c34_16
def c34_18 : ACode := .seq c34_5 c34_17
def c34_19 : ACode := .loop c34_18
def c34_20 : ACode := .block 0 c34_19
def c34_21 : ACode := .seq c34_2 c34_20
def c34_22 : ACode := .ops [
    ⟨(some 21), none, .q (.mv (.t 4)), []⟩,
    ⟨(some 2), none, .q (.mv (.t 21)), []⟩,
    ⟨(some 3), none, .q (.mv (.v (.bool true))), []⟩]
def c34_23 : ACode := .seq c34_22 .ret
def c34_24 : ACode := .seq c34_21 c34_23
def c34_25 : ACode := .seq c34_1 c34_24
def c34_26 : ACode := .seq c34_0 c34_25
@[go_sem] theorem c34_0_wp : type_of% (wp_of c34_0.eq_1) := wp_of c34_0.eq_1
@[go_sem] theorem c34_1_wp : type_of% (wp_of c34_1.eq_1) := wp_of c34_1.eq_1
@[go_sem] theorem c34_2_wp : type_of% (wp_of c34_2.eq_1) := wp_of c34_2.eq_1
@[go_sem] theorem c34_3_wp : type_of% (wp_of c34_3.eq_1) := wp_of c34_3.eq_1
@[go_sem] theorem c34_4_wp : type_of% (wp_of c34_4.eq_1) := wp_of c34_4.eq_1
@[go_sem] theorem c34_5_wp : type_of% (wp_of c34_5.eq_1) := wp_of c34_5.eq_1
@[go_sem] theorem c34_6_wp : type_of% (wp_of c34_6.eq_1) := wp_of c34_6.eq_1
@[go_sem] theorem c34_7_wp : type_of% (wp_of c34_7.eq_1) := wp_of c34_7.eq_1
@[go_sem] theorem c34_8_wp : type_of% (wp_of c34_8.eq_1) := wp_of c34_8.eq_1
@[go_sem] theorem c34_9_wp : type_of% (wp_of c34_9.eq_1) := wp_of c34_9.eq_1
@[go_sem] theorem c34_10_wp : type_of% (wp_of c34_10.eq_1) := wp_of c34_10.eq_1
@[go_sem] theorem c34_11_wp : type_of% (wp_of c34_11.eq_1) := wp_of c34_11.eq_1
@[go_sem] theorem c34_12_wp : type_of% (wp_of c34_12.eq_1) := wp_of c34_12.eq_1
@[go_sem] theorem c34_13_wp : type_of% (wp_of c34_13.eq_1) := wp_of c34_13.eq_1
@[go_sem] theorem c34_14_wp : type_of% (wp_of c34_14.eq_1) := wp_of c34_14.eq_1
@[go_sem] theorem c34_15_wp : type_of% (wp_of c34_15.eq_1) := wp_of c34_15.eq_1
@[go_sem] theorem c34_16_wp : type_of% (wp_of c34_16.eq_1) := wp_of c34_16.eq_1
@[go_sem] theorem c34_17_wp : type_of% (wp_of c34_17.eq_1) := wp_of c34_17.eq_1
@[go_sem] theorem c34_18_wp : type_of% (wp_of c34_18.eq_1) := wp_of c34_18.eq_1
@[go_sem] theorem c34_19_wp : type_of% (wp_of c34_19.eq_1) := wp_of c34_19.eq_1
@[go_sem] theorem c34_20_wp : type_of% (wp_of c34_20.eq_1) := wp_of c34_20.eq_1
@[go_sem] theorem c34_21_wp : type_of% (wp_of c34_21.eq_1) := wp_of c34_21.eq_1
@[go_sem] theorem c34_22_wp : type_of% (wp_of c34_22.eq_1) := wp_of c34_22.eq_1
@[go_sem] theorem c34_23_wp : type_of% (wp_of c34_23.eq_1) := wp_of c34_23.eq_1
@[go_sem] theorem c34_24_wp : type_of% (wp_of c34_24.eq_1) := wp_of c34_24.eq_1
@[go_sem] theorem c34_25_wp : type_of% (wp_of c34_25.eq_1) := wp_of c34_25.eq_1
@[go_sem] theorem c34_26_wp : type_of% (wp_of c34_26.eq_1) := wp_of c34_26.eq_1
def c34 : AFn := ⟨22, [.t 2, .t 3], c34_26⟩
set_option maxRecDepth 100000 in
theorem c34_ok : compF Tryd.prog Tryd.f34 = some c34 := by kernel_rfl
theorem a34 {args : List AV} {σ : ASt} {R : AV → ASt → Prop} (hl : args.length ≤ 22) (h : c34_26.wp Tryd.prog (RetQ [.t 2, .t 3] R) (init args) σ) : ACalls Tryd.prog 34 args σ R := acalls_of Tryd.func34 c34_ok hl h

/-! 48: tabular/tabularref11.Sign -/
def c48_0 : ACode := .ops [
    ⟨(some 4), none, .q (.mv (.v (.int .i64 0))), []⟩]
def c48_1 : ACode := .ops [
    ⟨(some 8), none, .q (.mv (.t 1)), []⟩,
    ⟨(some 9), none, .q (.mv (.t 0)), []⟩,
    ⟨(some 10), none, .q (.lenS (.t 9)), []⟩,
    ⟨(some 11), none, .q (.bin .geq (.t 8) (.t 10)), []⟩]
def c48_2 : ACode := .ops [
    ⟨(some 4), none, .q (.mv (.v (.int .i64 0))), []⟩]
def c48_3 : ACode := .seq c48_2 .ret
def c48_4 : ACode := .cond (.t 11) c48_3 .skip
def c48_5 : ACode := .seq c48_1 c48_4
def c48_6 : ACode := .ops [
    ⟨(some 12), none, .q (.mv (.t 0)), []⟩,
    ⟨(some 13), none, .q (.mv (.t 1)), []⟩,
    ⟨(some 14), none, .q (.idx (.t 12) (.t 13)), []⟩,
    ⟨(some 15), none, .q (.conv .i64 (.t 14)), []⟩,
    ⟨(some 5), none, .q (.mv (.t 15)), []⟩]
def c48_7 : ACode := .ops [
    ⟨(some 16), none, .q (.mv (.t 5)), []⟩,
    ⟨(some 17), none, .q (.bin .lss (.t 16) (.v (.int .i64 128))), []⟩]
def c48_8 : ACode := .ops [
    ⟨(some 4), none, .q (.mv (.v (.int .i64 1))), []⟩]
def c48_9 : ACode := .seq c48_8 .ret
def c48_10 : ACode := .cond (.t 17) c48_9 .skip
def c48_11 : ACode := .seq c48_7 c48_10
def c48_12 : ACode := .ops [
    ⟨(some 18), none, .q (.mv (.t 5)), []⟩,
    ⟨(some 19), none, .q (.bin .geq (.t 18) (.v (.int .i64 194))), []⟩,
    ⟨(some 20), none, .q (.mv (.t 19)), []⟩,
    ⟨(some 21), (some (20, true)), .q (.mv (.t 5)), []⟩,
    ⟨(some 22), (some (20, true)), .q (.bin .leq (.t 21) (.v (.int .i64 223))), []⟩,
    ⟨(some 23), none, .q (.pick (.t 20) (.t 22) (.v (.bool false))), []⟩,
    ⟨(some 24), none, .q (.mv (.t 23)), []⟩,
    ⟨(some 25), (some (24, true)), .q (.mv (.t 0)), []⟩,
    ⟨(some 26), (some (24, true)), .q (.mv (.t 1)), []⟩,
    ⟨(some 27), (some (24, true)), .q (.bin .add (.t 26) (.v (.int .i64 1))), []⟩,
    ⟨(some 28), (some (24, true)), .e (.call 59 [(.t 25), (.t 27), (.v (.int .i64 128)), (.v (.int .i64 191))]), []⟩,
    ⟨(some 29), none, .q (.pick (.t 24) (.t 28) (.v (.bool false))), []⟩]
def c48_13 : ACode := .ops [
    ⟨(some 4), none, .q (.mv (.v (.int .i64 2))), []⟩]
def c48_14 : ACode := .seq c48_13 .ret
def c48_15 : ACode := .cond (.t 29) c48_14 .skip
def c48_16 : ACode := .seq c48_12 c48_15
def c48_17 : ACode := .ops [
    ⟨(some 6), none, .q (.mv (.v (.int .i64 128))), []⟩,
    ⟨(some 7), none, .q (.mv (.v (.int .i64 191))), []⟩]
def c48_18 : ACode := .ops [
    ⟨(some 30), none, .q (.mv (.t 5)), []⟩,
    ⟨(some 31), none, .q (.bin .eql (.t 30) (.v (.int .i64 224))), []⟩,
    ⟨(some 32), none, .q (.mv (.t 31)), []⟩,
    ⟨(some 33), (some (32, false)), .q (.mv (.t 5)), []⟩,
    ⟨(some 34), (some (32, false)), .q (.bin .eql (.t 33) (.v (.int .i64 240))), []⟩,
    ⟨(some 35), none, .q (.pick (.t 32) (.v (.bool true)) (.t 34)), []⟩]
def c48_19 : ACode := .ops [
    ⟨(some 6), none, .q (.mv (.v (.int .i64 160))), []⟩]
def c48_20 : ACode := .cond (.t 35) c48_19 .skip
def c48_21 : ACode := .seq c48_18 c48_20
def c48_22 : ACode := .ops [
    ⟨(some 36), none, .q (.mv (.t 5)), []⟩,
    ⟨(some 37), none, .q (.bin .eql (.t 36) (.v (.int .i64 240))), []⟩]
def c48_23 : ACode := .ops [
    ⟨(some 6), none, .q (.mv (.v (.int .i64 144))), []⟩]
def c48_24 : ACode := .cond (.t 37) c48_23 .skip
def c48_25 : ACode := .seq c48_22 c48_24
def c48_26 : ACode := .ops [
    ⟨(some 38), none, .q (.mv (.t 5)), []⟩,
    ⟨(some 39), none, .q (.bin .eql (.t 38) (.v (.int .i64 237))), []⟩]
def c48_27 : ACode := .ops [
    ⟨(some 7), none, .q (.mv (.v (.int .i64 159))), []⟩]
def c48_28 : ACode := .cond (.t 39) c48_27 .skip
def c48_29 : ACode := .seq c48_26 c48_28
def c48_30 : ACode := .ops [
    ⟨(some 40), none, .q (.mv (.t 5)), []⟩,
    ⟨(some 41), none, .q (.bin .eql (.t 40) (.v (.int .i64 244))), []⟩]
def c48_31 : ACode := .ops [
    ⟨(some 7), none, .q (.mv (.v (.int .i64 143))), []⟩]
def c48_32 : ACode := .cond (.t 41) c48_31 .skip
def c48_33 : ACode := .seq c48_30 c48_32
def c48_34 : ACode := .ops [
    ⟨(some 42), none, .q (.mv (.t 5)), []⟩,
    ⟨(some 43), none, .q (.bin .geq (.t 42) (.v (.int .i64 224))), []⟩,
    ⟨(some 44), none, .q (.mv (.t 43)), []⟩,
    ⟨(some 45), (some (44, true)), .q (.mv (.t 5)), []⟩,
    ⟨(some 46), (some (44, true)), .q (.bin .leq (.t 45) (.v (.int .i64 239))), []⟩,
    ⟨(some 47), none, .q (.pick (.t 44) (.t 46) (.v (.bool false))), []⟩,
    ⟨(some 48), none, .q (.mv (.t 47)), []⟩,
    ⟨(some 49), (some (48, true)), .q (.mv (.t 0)), []⟩,
    ⟨(some 50), (some (48, true)), .q (.mv (.t 1)), []⟩,
    ⟨(some 51), (some (48, true)), .q (.bin .add (.t 50) (.v (.int .i64 1))), []⟩,
    ⟨(some 52), (some (48, true)), .q (.mv (.t 6)), []⟩,
    ⟨(some 53), (some (48, true)), .q (.mv (.t 7)), []⟩,
    ⟨(some 54), (some (48, true)), .e (.call 59 [(.t 49), (.t 51), (.t 52), (.t 53)]), []⟩,
    ⟨(some 55), none, .q (.pick (.t 48) (.t 54) (.v (.bool false))), []⟩,
    ⟨(some 56), none, .q (.mv (.t 55)), []⟩,
    ⟨(some 57), (some (56, true)), .q (.mv (.t 0)), []⟩,
    ⟨(some 58), (some (56, true)), .q (.mv (.t 1)), []⟩,
    ⟨(some 59), (some (56, true)), .q (.bin .add (.t 58) (.v (.int .i64 2))), []⟩,
    ⟨(some 60), (some (56, true)), .e (.call 59 [(.t 57), (.t 59), (.v (.int .i64 128)), (.v (.int .i64 191))]), []⟩,
    ⟨(some 61), none, .q (.pick (.t 56) (.t 60) (.v (.bool false))), []⟩]
def c48_35 : ACode := .ops [
    ⟨(some 4), none, .q (.mv (.v (.int .i64 3))), []⟩]
def c48_36 : ACode := .seq c48_35 .ret
def c48_37 : ACode := .cond (.t 61) c48_36 .skip
def c48_38 : ACode := .seq c48_34 c48_37
def c48_39 : ACode := .ops [
    ⟨(some 62), none, .q (.mv (.t 5)), []⟩,
    ⟨(some 63), none, .q (.bin .geq (.t 62) (.v (.int .i64 240))), []⟩,
    ⟨(some 64), none, .q (.mv (.t 63)), []⟩,
    ⟨(some 65), (some (64, true)), .q (.mv (.t 5)), []⟩,
    ⟨(some 66), (some (64, true)), .q (.bin .leq (.t 65) (.v (.int .i64 244))), []⟩,
    ⟨(some 67), none, .q (.pick (.t 64) (.t 66) (.v (.bool false))), []⟩,
    ⟨(some 68), none, .q (.mv (.t 67)), []⟩,
    ⟨(some 69), (some (68, true)), .q (.mv (.t 0)), []⟩,
    ⟨(some 70), (some (68, true)), .q (.mv (.t 1)), []⟩,
    ⟨(some 71), (some (68, true)), .q (.bin .add (.t 70) (.v (.int .i64 1))), []⟩,
    ⟨(some 72), (some (68, true)), .q (.mv (.t 6)), []⟩,
    ⟨(some 73), (some (68, true)), .q (.mv (.t 7)), []⟩,
    ⟨(some 74), (some (68, true)), .e (.call 59 [(.t 69), (.t 71), (.t 72), (.t 73)]), []⟩,
    ⟨(some 75), none, .q (.pick (.t 68) (.t 74) (.v (.bool false))), []⟩,
    ⟨(some 76), none, .q (.mv (.t 75)), []⟩,
    ⟨(some 77), (some (76, true)), .q (.mv (.t 0)), []⟩,
    ⟨(some 78), (some (76, true)), .q (.mv (.t 1)), []⟩,
    ⟨(some 79), (some (76, true)), .q (.bin .add (.t 78) (.v (.int .i64 2))), []⟩,
    ⟨(some 80), (some (76, true)), .e (.call 59 [(.t 77), (.t 79), (.v (.int .i64 128)), (.v (.int .i64 191))]), []⟩,
    ⟨(some 81), none, .q (.pick (.t 76) (.t 80) (.v (.bool false))), []⟩,
    ⟨(some 82), none, .q (.mv (.t 81)), []⟩,
    ⟨(some 83), (some (82, true)), .q (.mv (.t 0)), []⟩,
    ⟨(some 84), (some (82, true)), .q (.mv (.t 1)), []⟩,
    ⟨(some 85), (some (82, true)), .q (.bin .add (.t 84) (.v (.int .i64 3))), []⟩,
    ⟨(some 86), (some (82, true)), .e (.call 59 [(.t 83), (.t 85), (.v (.int .i64 128)), (.v (.int .i64 191))]), []⟩,
    ⟨(some 87), none, .q (.pick (.t 82) (.t 86) (.v (.bool false))), []⟩]
def c48_40 : ACode := .ops [
    ⟨(some 4), none, .q (.mv (.v (.int .i64 4))), []⟩]
def c48_41 : ACode := .seq c48_40 .ret
def c48_42 : ACode := .cond (.t 87) c48_41 .skip
def c48_43 : ACode := .seq c48_39 c48_42
def c48_44 : ACode := .ops [
    ⟨(some 4), none, .q (.mv (.v (.int .i64 0))), []⟩]
def c48_45 : ACode := .seq c48_44 .ret
def c48_46 : ACode := .seq c48_43 c48_45
def c48_47 : ACode := .seq c48_38 c48_46
def c48_48 : ACode := .seq c48_33 c48_47
def c48_49 : ACode := .seq c48_29 c48_48
def c48_50 : ACode := .seq c48_25 c48_49
def c48_51 : ACode := .seq c48_21 c48_50
def c48_52 : ACode := .seq c48_17 c48_51
def c48_53 : ACode := .seq c48_16 c48_52
def c48_54 : ACode := .seq c48_11 c48_53
def c48_55 : ACode := .seq c48_6 c48_54
def c48_56 : ACode := .seq c48_5 c48_55
def c48_57 : ACode := .seq c48_0 c48_56
@[go_sem] theorem c48_0_wp : type_of% (wp_of c48_0.eq_1) := wp_of c48_0.eq_1
@[go_sem] theorem c48_1_wp : type_of% (wp_of c48_1.eq_1) := wp_of c48_1.eq_1
@[go_sem] theorem c48_2_wp : type_of% (wp_of c48_2.eq_1) := wp_of c48_2.eq_1
@[go_sem] theorem c48_3_wp : type_of% (wp_of c48_3.eq_1) := wp_of c48_3.eq_1
@[go_sem] theorem c48_4_wp : type_of% (wp_of c48_4.eq_1) := wp_of c48_4.eq_1
@[go_sem] theorem c48_5_wp : type_of% (wp_of c48_5.eq_1) := wp_of c48_5.eq_1
@[go_sem] theorem c48_6_wp : type_of% (wp_of c48_6.eq_1) := wp_of c48_6.eq_1
@[go_sem] theorem c48_7_wp : type_of% (wp_of c48_7.eq_1) := wp_of c48_7.eq_1
@[go_sem] theorem c48_8_wp : type_of% (wp_of c48_8.eq_1) := wp_of c48_8.eq_1
@[go_sem] theorem c48_9_wp : type_of% (wp_of c48_9.eq_1) := wp_of c48_9.eq_1
@[go_sem] theorem c48_10_wp : type_of% (wp_of c48_10.eq_1) := wp_of c48_10.eq_1
@[go_sem] theorem c48_11_wp : type_of% (wp_of c48_11.eq_1) := wp_of c48_11.eq_1
@[go_sem] theorem c48_12_wp : type_of% (wp_of c48_12.eq_1) := wp_of c48_12.eq_1
@[go_sem] theorem c48_13_wp : type_of% (wp_of c48_13.eq_1) := wp_of c48_13.eq_1
@[go_sem] theorem c48_14_wp : type_of% (wp_of c48_14.eq_1) := wp_of c48_14.eq_1
@[go_sem] theorem c48_15_wp : type_of% (wp_of c48_15.eq_1) := wp_of c48_15.eq_1
@[go_sem] theorem c48_16_wp : type_of% (wp_of c48_16.eq_1) := wp_of c48_16.eq_1
@[go_sem] theorem c48_17_wp : type_of% (wp_of c48_17.eq_1) := wp_of c48_17.eq_1
@[go_sem] theorem c48_18_wp : type_of% (wp_of c48_18.eq_1) := wp_of c48_18.eq_1
@[go_sem] theorem c48_19_wp : type_of% (wp_of c48_19.eq_1) := wp_of c48_19.eq_1
@[go_sem] theorem c48_20_wp : type_of% (wp_of c48_20.eq_1) := wp_of c48_20.eq_1
@[go_sem] theorem c48_21_wp : type_of% (wp_of c48_21.eq_1) := wp_of c48_21.eq_1
@[go_sem] theorem c48_22_wp : type_of% (wp_of c48_22.eq_1) := wp_of c48_22.eq_1
@[go_sem] theorem c48_23_wp : type_of% (wp_of c48_23.eq_1) := wp_of c48_23.eq_1
@[go_sem] theorem c48_24_wp : type_of% (wp_of c48_24.eq_1) := wp_of c48_24.eq_1
@[go_sem] theorem c48_25_wp : type_of% (wp_of c48_25.eq_1) := wp_of c48_25.eq_1
@[go_sem] theorem c48_26_wp : type_of% (wp_of c48_26.eq_1) := wp_of c48_26.eq_1
@[go_sem] theorem c48_27_wp : type_of% (wp_of c48_27.eq_1) := wp_of c48_27.eq_1
@[go_sem] theorem c48_28_wp : type_of% (wp_of c48_28.eq_1) := wp_of c48_28.eq_1
@[go_sem] theorem c48_29_wp : type_of% (wp_of c48_29.eq_1) := wp_of c48_29.eq_1
@[go_sem] theorem c48_30_wp : type_of% (wp_of c48_30.eq_1) := wp_of c48_30.eq_1
@[go_sem] theorem c48_31_wp : type_of% (wp_of c48_31.eq_1) := wp_of c48_31.eq_1
@[go_sem] theorem c48_32_wp : type_of% (wp_of c48_32.eq_1) := wp_of c48_32.eq_1
@[go_sem] theorem c48_33_wp : type_of% (wp_of c48_33.eq_1) := wp_of c48_33.eq_1
@[go_sem] theorem c48_34_wp : type_of% (wp_of c48_34.eq_1) := wp_of c48_34.eq_1
@[go_sem] theorem c48_35_wp : type_of% (wp_of c48_35.eq_1) := wp_of c48_35.eq_1
@[go_sem] theorem c48_36_wp : type_of% (wp_of c48_36.eq_1) := wp_of c48_36.eq_1
@[go_sem] theorem c48_37_wp : type_of% (wp_of c48_37.eq_1) := wp_of c48_37.eq_1
@[go_sem] theorem c48_38_wp : type_of% (wp_of c48_38.eq_1) := wp_of c48_38.eq_1
@[go_sem] theorem c48_39_wp : type_of% (wp_of c48_39.eq_1) := wp_of c48_39.eq_1
@[go_sem] theorem c48_40_wp : type_of% (wp_of c48_40.eq_1) := wp_of c48_40.eq_1
@[go_sem] theorem c48_41_wp : type_of% (wp_of c48_41.eq_1) := wp_of c48_41.eq_1
@[go_sem] theorem c48_42_wp : type_of% (wp_of c48_42.eq_1) := wp_of c48_42.eq_1
@[go_sem] theorem c48_43_wp : type_of% (wp_of c48_43.eq_1) := wp_of c48_43.eq_1
@[go_sem] theorem c48_44_wp : type_of% (wp_of c48_44.eq_1) := wp_of c48_44.eq_1
@[go_sem] theorem c48_45_wp : type_of% (wp_of c48_45.eq_1) := wp_of c48_45.eq_1
@[go_sem] theorem c48_46_wp : type_of% (wp_of c48_46.eq_1) := wp_of c48_46.eq_1
@[go_sem] theorem c48_47_wp : type_of% (wp_of c48_47.eq_1) := wp_of c48_47.eq_1
@[go_sem] theorem c48_48_wp : type_of% (wp_of c48_48.eq_1) := wp_of c48_48.eq_1
@[go_sem] theorem c48_49_wp : type_of% (wp_of c48_49.eq_1) := wp_of c48_49.eq_1
@[go_sem] theorem c48_50_wp : type_of% (wp_of c48_50.eq_1) := wp_of c48_50.eq_1
@[go_sem] theorem c48_51_wp : type_of% (wp_of c48_51.eq_1) := wp_of c48_51.eq_1
@[go_sem] theorem c48_52_wp : type_of% (wp_of c48_52.eq_1) := wp_of c48_52.eq_1
@[go_sem] theorem c48_53_wp : type_of% (wp_of c48_53.eq_1) := wp_of c48_53.eq_1
@[go_sem] theorem c48_54_wp : type_of% (wp_of c48_54.eq_1) := wp_of c48_54.eq_1
@[go_sem] theorem c48_55_wp : type_of% (wp_of c48_55.eq_1) := wp_of c48_55.eq_1
@[go_sem] theorem c48_56_wp : type_of% (wp_of c48_56.eq_1) := wp_of c48_56.eq_1
@[go_sem] theorem c48_57_wp : type_of% (wp_of c48_57.eq_1) := wp_of c48_57.eq_1
def c48 : AFn := ⟨88, [.t 4], c48_57⟩
set_option maxRecDepth 100000 in
theorem c48_ok : compF Tryd.prog Tryd.f48 = some c48 := by kernel_rfl
theorem a48 {args : List AV} {σ : ASt} {R : AV → ASt → Prop} (hl : args.length ≤ 88) (h : c48_57.wp Tryd.prog (RetQ [.t 4] R) (init args) σ) : ACalls Tryd.prog 48 args σ R := acalls_of Tryd.func48 c48_ok hl h

/-! 59: tabular/tabularref11.more -/
def c59_0 : ACode := .ops [
    ⟨(some 8), none, .q (.mv (.v (.bool false))), []⟩]
def c59_1 : ACode := .ops [
    ⟨(some 9), none, .q (.mv (.t 1)), []⟩,
    ⟨(some 10), none, .q (.mv (.t 0)), []⟩,
    ⟨(some 11), none, .q (.lenS (.t 10)), []⟩,
    ⟨(some 12), none, .q (.bin .lss (.t 9) (.t 11)), []⟩,
    ⟨(some 13), none, .q (.mv (.t 12)), []⟩,
    ⟨(some 14), (some (13, true)), .q (.mv (.t 0)), []⟩,
    ⟨(some 15), (some (13, true)), .q (.mv (.t 1)), []⟩,
    ⟨(some 16), (some (13, true)), .q (.idx (.t 14) (.t 15)), []⟩,
    ⟨(some 17), (some (13, true)), .q (.conv .i64 (.t 16)), []⟩,
    ⟨(some 18), (some (13, true)), .q (.mv (.t 2)), []⟩,
    ⟨(some 19), (some (13, true)), .q (.bin .geq (.t 17) (.t 18)), []⟩,
    ⟨(some 20), none, .q (.pick (.t 13) (.t 19) (.v (.bool false))), []⟩,
    ⟨(some 21), none, .q (.mv (.t 20)), []⟩,
    ⟨(some 22), (some (21, true)), .q (.mv (.t 0)), []⟩,
    ⟨(some 23), (some (21, true)), .q (.mv (.t 1)), []⟩,
    ⟨(some 24), (some (21, true)), .q (.idx (.t 22) (.t 23)), []⟩,
    ⟨(some 25), (some (21, true)), .q (.conv .i64 (.t 24)), []⟩,
    ⟨(some 26), (some (21, true)), .q (.mv (.t 3)), []⟩,
    ⟨(some 27), (some (21, true)), .q (.bin .leq (.t 25) (.t 26)), []⟩,
    ⟨(some 28), none, .q (.pick (.t 21) (.t 27) (.v (.bool false))), []⟩,
    ⟨(some 8), none, .q (.mv (.t 28)), []⟩]
def c59_2 : ACode := .seq c59_1 .ret
def c59_3 : ACode := .seq c59_0 c59_2
@[go_sem] theorem c59_0_wp : type_of% (wp_of c59_0.eq_1) := wp_of c59_0.eq_1
@[go_sem] theorem c59_1_wp : type_of% (wp_of c59_1.eq_1) := wp_of c59_1.eq_1
@[go_sem] theorem c59_2_wp : type_of% (wp_of c59_2.eq_1) := wp_of c59_2.eq_1
@[go_sem] theorem c59_3_wp : type_of% (wp_of c59_3.eq_1) := wp_of c59_3.eq_1
def c59 : AFn := ⟨29, [.t 8], c59_3⟩
set_option maxRecDepth 100000 in
theorem c59_ok : compF Tryd.prog Tryd.f59 = some c59 := by kernel_rfl
theorem a59 {args : List AV} {σ : ASt} {R : AV → ASt → Prop} (hl : args.length ≤ 29) (h : c59_3.wp Tryd.prog (RetQ [.t 8] R) (init args) σ) : ACalls Tryd.prog 59 args σ R := acalls_of Tryd.func59 c59_ok hl h

end Go.A
