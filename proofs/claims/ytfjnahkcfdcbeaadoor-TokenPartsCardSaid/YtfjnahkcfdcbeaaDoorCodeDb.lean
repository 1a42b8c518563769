/- The functions, compiled: by program (wip/gencode.py). -/
import Derived.Test.YtfjnahkcfdcbeaaDoorBk
import Derived.Test.YtfjnahkcfdcbeaaDoorProg
import Derived.KernelRfl
namespace Go.A
open Go.Proofs

/-! 6: tabular/tabularlaw11.TokenParts -/
def c6_0 : ACode := .ops [
    ⟨(some 4), none, .q (.mv (.v (.bool false))), []⟩]
def c6_1 : ACode := .ops [
    ⟨(some 18), none, .q (.mv (.t 0)), []⟩,
    ⟨(some 19), none, .e (.call 15 [(.t 18), (.v (.int .i64 200))]), []⟩,
    ⟨(some 20), none, .q (.mv (.t 1)), []⟩,
    ⟨(some 21), none, .e (.call 15 [(.t 20), (.v (.int .i64 200))]), []⟩,
    ⟨(some 0), none, .q (.mv (.t 19)), []⟩,
    ⟨(some 1), none, .q (.mv (.t 21)), []⟩]
def c6_2 : ACode := .ops [
    ⟨(some 5), none, .q (.mv (.v (.int .i64 0))), []⟩]
def c6_3 : ACode := .ops [
    ⟨(some 22), none, .q (.mv (.t 5)), []⟩,
    ⟨(some 23), none, .q (.mv (.t 0)), []⟩,
    ⟨(some 24), none, .q (.lenS (.t 23)), []⟩,
    ⟨(some 25), none, .q (.bin .lss (.t 22) (.t 24)), []⟩]
def c6_4 : ACode := .cond (.t 25) .skip (.exit 0)
def c6_5 : ACode := .seq c6_3 c6_4
def c6_6 : ACode := .ops [
    ⟨(some 28), none, .q (.mv (.t 0)), []⟩,
    ⟨(some 29), none, .q (.mv (.t 5)), []⟩,
    ⟨(some 30), none, .q (.idx (.t 28) (.t 29)), []⟩,
    ⟨(some 31), none, .q (.bin .eql (.t 30) (.v (.int .u8 34))), []⟩]
def c6_7 : ACode := .ops [
    ⟨(some 32), none, .e (.call 23 []), []⟩,
    ⟨(some 4), none, .q (.mv (.t 32)), []⟩]
def c6_8 : ACode := .seq c6_7 .ret
def c6_9 : ACode := .cond (.t 31) c6_8 .skip
def c6_10 : ACode := .seq c6_6 c6_9
def c6_11 : ACode := .block 1 c6_10
def c6_12 : ACode := .ops [
    ⟨(some 26), none, .q (.mv (.t 5)), []⟩,
    ⟨(some 27), none, .q (.bin .add (.t 26) (.v (.int .i64 1))), []⟩,
    ⟨(some 5), none, .q (.mv (.t 27)), []⟩]
def c6_13 : ACode := .seq c6_11 c6_12
def c6_14 : ACode := .seq c6_5 c6_13
def c6_15 : ACode := .loop c6_14
def c6_16 : ACode := .block 0 c6_15
def c6_17 : ACode := .seq c6_2 c6_16
def c6_18 : ACode := .ops [
    ⟨(some 34), none, .q (.mv (.t 0)), []⟩,
    ⟨(some 35), none, .e (.call 24 [(.t 34)]), []⟩,
    ⟨(some 33), none, .q (.mv (.t 35)), []⟩,
    ⟨(some 36), none, .q (.ext 0 (.t 33)), []⟩,
    ⟨(some 37), none, .q (.ext 1 (.t 33)), []⟩,
    ⟨(some 38), none, .q (.ext 2 (.t 33)), []⟩,
    ⟨(some 6), none, .q (.mv (.t 36)), []⟩,
    ⟨(some 7), none, .q (.mv (.t 37)), []⟩,
    ⟨(some 8), none, .q (.mv (.t 38)), []⟩]
def c6_19 : ACode := .ops [
    ⟨(some 40), none, .q (.mv (.t 1)), []⟩,
    ⟨(some 41), none, .e (.call 24 [(.t 40)]), []⟩,
    ⟨(some 39), none, .q (.mv (.t 41)), []⟩,
    ⟨(some 42), none, .q (.ext 0 (.t 39)), []⟩,
    ⟨(some 43), none, .q (.ext 1 (.t 39)), []⟩,
    ⟨(some 44), none, .q (.ext 2 (.t 39)), []⟩,
    ⟨(some 9), none, .q (.mv (.t 42)), []⟩,
    ⟨(some 10), none, .q (.mv (.t 43)), []⟩,
    ⟨(some 11), none, .q (.mv (.t 44)), []⟩]
def c6_20 : ACode := .ops [
    ⟨(some 45), none, .q (.mv (.t 8)), []⟩,
    ⟨(some 46), none, .q (.bin .neq (.t 45) (.v (.int .i64 0))), []⟩,
    ⟨(some 47), none, .q (.mv (.t 46)), []⟩,
    ⟨(some 48), (some (47, false)), .q (.mv (.t 11)), []⟩,
    ⟨(some 49), (some (47, false)), .q (.bin .neq (.t 48) (.v (.int .i64 0))), []⟩,
    ⟨(some 50), none, .q (.pick (.t 47) (.v (.bool true)) (.t 49)), []⟩,
    ⟨(some 51), none, .q (.mv (.t 50)), []⟩,
    ⟨(some 52), (some (51, false)), .q (.mv (.t 6)), []⟩,
    ⟨(some 53), (some (51, false)), .q (.len (.t 52)), []⟩,
    ⟨(some 54), (some (51, false)), .q (.bin .eql (.t 53) (.v (.int .i64 0))), []⟩,
    ⟨(some 55), none, .q (.pick (.t 51) (.v (.bool true)) (.t 54)), []⟩,
    ⟨(some 56), none, .q (.mv (.t 55)), []⟩,
    ⟨(some 57), (some (56, false)), .q (.mv (.t 9)), []⟩,
    ⟨(some 58), (some (56, false)), .q (.len (.t 57)), []⟩,
    ⟨(some 59), (some (56, false)), .q (.bin .eql (.t 58) (.v (.int .i64 0))), []⟩,
    ⟨(some 60), none, .q (.pick (.t 56) (.v (.bool true)) (.t 59)), []⟩]
def c6_21 : ACode := .ops [
    ⟨(some 61), none, .e (.call 23 []), []⟩,
    ⟨(some 4), none, .q (.mv (.t 61)), []⟩]
def c6_22 : ACode := .seq c6_21 .ret
def c6_23 : ACode := .cond (.t 60) c6_22 .skip
def c6_24 : ACode := .seq c6_20 c6_23
def c6_25 : ACode := .ops [
    ⟨(some 63), none, .q (.mv (.t 0)), []⟩,
    ⟨(some 64), none, .q (.bin .add (.t 63) (.v (.str [32]))), []⟩,
    ⟨(some 65), none, .q (.mv (.t 1)), []⟩,
    ⟨(some 66), none, .q (.bin .add (.t 64) (.t 65)), []⟩,
    ⟨(some 67), none, .e (.call 24 [(.t 66)]), []⟩,
    ⟨(some 62), none, .q (.mv (.t 67)), []⟩,
    ⟨(some 68), none, .q (.ext 0 (.t 62)), []⟩,
    ⟨(some 69), none, .q (.ext 1 (.t 62)), []⟩,
    ⟨(some 70), none, .q (.ext 2 (.t 62)), []⟩,
    ⟨(some 12), none, .q (.mv (.t 68)), []⟩,
    ⟨(some 13), none, .q (.mv (.t 69)), []⟩,
    ⟨(some 14), none, .q (.mv (.t 70)), []⟩]
def c6_26 : ACode := .ops [
    ⟨(some 71), none, .q (.mv (.t 14)), []⟩,
    ⟨(some 72), none, .q (.bin .neq (.t 71) (.v (.int .i64 0))), []⟩,
    ⟨(some 73), none, .q (.mv (.t 72)), []⟩,
    ⟨(some 74), (some (73, false)), .q (.mv (.t 12)), []⟩,
    ⟨(some 75), (some (73, false)), .q (.len (.t 74)), []⟩,
    ⟨(some 76), (some (73, false)), .q (.mv (.t 6)), []⟩,
    ⟨(some 77), (some (73, false)), .q (.len (.t 76)), []⟩,
    ⟨(some 78), (some (73, false)), .q (.mv (.t 9)), []⟩,
    ⟨(some 79), (some (73, false)), .q (.len (.t 78)), []⟩,
    ⟨(some 80), (some (73, false)), .q (.bin .add (.t 77) (.t 79)), []⟩,
    ⟨(some 81), (some (73, false)), .q (.bin .sub (.t 80) (.v (.int .i64 1))), []⟩,
    ⟨(some 82), (some (73, false)), .q (.bin .neq (.t 75) (.t 81)), []⟩,
    ⟨(some 83), none, .q (.pick (.t 73) (.v (.bool true)) (.t 82)), []⟩]
def c6_27 : ACode := .ops [
    ⟨(some 4), none, .q (.mv (.v (.bool false))), []⟩]
def c6_28 : ACode := .seq c6_27 .ret
def c6_29 : ACode := .cond (.t 83) c6_28 .skip
def c6_30 : ACode := .seq c6_26 c6_29
def c6_31 : ACode := .ops [
    ⟨(some 84), none, .q (.mv (.t 12)), []⟩,
    ⟨(some 85), none, .q (.len (.t 84)), []⟩,
    ⟨(some 86), none, .q (.mv (.v (.int .i64 0))), []⟩]
def c6_32 : ACode := .ops [
    ⟨(some 87), none, .q (.bin .lss (.t 86) (.t 85)), []⟩]
def c6_33 : ACode := .cond (.t 87) .skip (.exit 2)
def c6_34 : ACode := .ops [
    ⟨(some 88), none, .q (.mv (.t 86)), []⟩,
    ⟨(some 89), none, .q (.ia 4 (.t 84) (.t 86)), []⟩,
    ⟨(some 90), none, .q (.ld (some 4) (.t 89)), []⟩,
    ⟨(some 16), none, .e (.alloc [(.int .i64 0), (.str []), (.int .i64 0), (.int .i64 0)]), []⟩,
    ⟨(some 15), none, .q (.mv (.t 88)), []⟩,
    ⟨none, none, .e (.store 4 (.t 16) (.t 90)), []⟩]
def c6_35 : ACode := .ops [
    ⟨(some 91), none, .q (.build [(.int .i64 0), (.str []), (.int .i64 0), (.int .i64 0)] []), []⟩,
    ⟨(some 17), none, .e (.alloc [(.int .i64 0), (.str []), (.int .i64 0), (.int .i64 0)]), []⟩,
    ⟨none, none, .e (.store 4 (.t 17) (.t 91)), []⟩]
def c6_36 : ACode := .ops [
    ⟨(some 92), none, .q (.mv (.t 15)), []⟩,
    ⟨(some 93), none, .q (.mv (.t 6)), []⟩,
    ⟨(some 94), none, .q (.len (.t 93)), []⟩,
    ⟨(some 95), none, .q (.bin .sub (.t 94) (.v (.int .i64 1))), []⟩,
    ⟨(some 96), none, .q (.bin .lss (.t 92) (.t 95)), []⟩]
def c6_37 : ACode := .ops [
    ⟨(some 97), none, .q (.mv (.t 6)), []⟩,
    ⟨(some 98), none, .q (.mv (.t 15)), []⟩,
    ⟨(some 99), none, .q (.ia 4 (.t 97) (.t 98)), []⟩,
    ⟨(some 100), none, .q (.ld (some 4) (.t 99)), []⟩,
    ⟨none, none, .e (.store 4 (.t 17) (.t 100)), []⟩]
def c6_38 : ACode := .ops [
    ⟨(some 101), none, .q (.mv (.t 9)), []⟩,
    ⟨(some 102), none, .q (.mv (.t 15)), []⟩,
    ⟨(some 103), none, .q (.mv (.t 6)), []⟩,
    ⟨(some 104), none, .q (.len (.t 103)), []⟩,
    ⟨(some 105), none, .q (.bin .sub (.t 102) (.t 104)), []⟩,
    ⟨(some 106), none, .q (.bin .add (.t 105) (.v (.int .i64 1))), []⟩,
    ⟨(some 107), none, .q (.ia 4 (.t 101) (.t 106)), []⟩,
    ⟨(some 108), none, .q (.ld (some 4) (.t 107)), []⟩,
    ⟨none, none, .e (.store 4 (.t 17) (.t 108)), []⟩]
def c6_39 : ACode := .ops [
    ⟨(some 109), none, .q (.fa 2 (.t 17)), []⟩,
    ⟨(some 110), none, .q (.ld none (.t 109)), []⟩,
    ⟨(some 111), none, .q (.mv (.t 0)), []⟩,
    ⟨(some 112), none, .q (.lenS (.t 111)), []⟩,
    ⟨(some 113), none, .q (.bin .add (.t 112) (.v (.int .i64 1))), []⟩,
    ⟨(some 114), none, .q (.bin .add (.t 110) (.t 113)), []⟩,
    ⟨(some 115), none, .q (.fa 2 (.t 17)), []⟩,
    ⟨none, none, .e (.store 1 (.t 115) (.t 114)), []⟩]
def c6_40 : ACode := .ops [
    ⟨(some 116), none, .q (.fa 3 (.t 17)), []⟩,
    ⟨(some 117), none, .q (.ld none (.t 116)), []⟩,
    ⟨(some 118), none, .q (.mv (.t 6)), []⟩,
    ⟨(some 119), none, .q (.mv (.t 6)), []⟩,
    ⟨(some 120), none, .q (.len (.t 119)), []⟩,
    ⟨(some 121), none, .q (.bin .sub (.t 120) (.v (.int .i64 1))), []⟩,
    ⟨(some 122), none, .q (.ia 4 (.t 118) (.t 121)), []⟩,
    ⟨(some 123), none, .q (.fa 3 (.t 122)), []⟩,
    ⟨(some 124), none, .q (.ld none (.t 123)), []⟩,
    ⟨(some 125), none, .q (.bin .add (.t 124) (.v (.int .i64 1))), []⟩,
    ⟨(some 126), none, .q (.bin .add (.t 117) (.t 125)), []⟩,
    ⟨(some 127), none, .q (.fa 3 (.t 17)), []⟩,
    ⟨none, none, .e (.store 1 (.t 127) (.t 126)), []⟩]
def c6_41 : ACode := .seq c6_39 c6_40
def c6_42 : ACode := .seq c6_38 c6_41
def c6_43 : ACode := .cond (.t 96) c6_37 c6_42
def c6_44 : ACode := .seq c6_36 c6_43
def c6_45 : ACode := .ops [
    ⟨(some 128), none, .q (.ld (some 4) (.t 16)), []⟩,
    ⟨(some 129), none, .q (.ld (some 4) (.t 17)), []⟩,
    ⟨(some 130), none, .q (.eqs true [(0, 0), (1, 2), (2, 0), (3, 0)] (.t 128) (.t 129)), []⟩]
def c6_46 : ACode := .ops [
    ⟨(some 4), none, .q (.mv (.v (.bool false))), []⟩]
def c6_47 : ACode := .seq c6_46 .ret
def c6_48 : ACode := .cond (.t 130) c6_47 .skip
def c6_49 : ACode := .seq c6_45 c6_48
def c6_50 : ACode := .seq c6_44 c6_49
def c6_51 : ACode := .seq c6_35 c6_50
def c6_52 : ACode := .seq c6_34 c6_51
def c6_53 : ACode := .block 3 c6_52
def c6_54 : ACode := .ops [
    ⟨(some 131), none, .q (.bin .add (.t 86) (.v (.int .i64 1))), []⟩,
    ⟨(some 86), none, .q (.mv (.t 131)), []⟩]
def c6_55 : ACode := .seq c6_53 c6_54
def c6_56 : ACode := .seq c6_33 c6_55
def c6_57 : ACode := .seq c6_32 c6_56
def c6_58 : ACode := .loop c6_57
def c6_59 : ACode := .block 2 c6_58
def c6_60 : ACode := .seq c6_31 c6_59
def c6_61 : ACode := .ops [
    ⟨(some 132), none, .e (.call 23 []), []⟩,
    ⟨(some 4), none, .q (.mv (.t 132)), []⟩]
def c6_62 : ACode := .seq c6_61 .ret
def c6_63 : ACode := .seq c6_60 c6_62
def c6_64 : ACode := .seq c6_30 c6_63
def c6_65 : ACode := .seq c6_25 c6_64
def c6_66 : ACode := .seq c6_24 c6_65
def c6_67 : ACode := .seq c6_19 c6_66
def c6_68 : ACode := .seq c6_18 c6_67
def c6_69 : ACode := .seq c6_17 c6_68
def c6_70 : ACode := .seq c6_1 c6_69
def c6_71 : ACode := .seq c6_0 c6_70
@[go_sem] theorem c6_0_wp (P : Program) (Q : APost) (a : AFr) (σ : ASt) : c6_0.wp P Q a σ = ACode.wp P (.ops [
    ⟨(some 4), none, .q (.mv (.v (.bool false))), []⟩]) Q a σ := id rfl
@[go_sem] theorem c6_1_wp (P : Program) (Q : APost) (a : AFr) (σ : ASt) : c6_1.wp P Q a σ = ACode.wp P (.ops [
    ⟨(some 18), none, .q (.mv (.t 0)), []⟩,
    ⟨(some 19), none, .e (.call 15 [(.t 18), (.v (.int .i64 200))]), []⟩,
    ⟨(some 20), none, .q (.mv (.t 1)), []⟩,
    ⟨(some 21), none, .e (.call 15 [(.t 20), (.v (.int .i64 200))]), []⟩,
    ⟨(some 0), none, .q (.mv (.t 19)), []⟩,
    ⟨(some 1), none, .q (.mv (.t 21)), []⟩]) Q a σ := id rfl
@[go_sem] theorem c6_2_wp (P : Program) (Q : APost) (a : AFr) (σ : ASt) : c6_2.wp P Q a σ = ACode.wp P (.ops [
    ⟨(some 5), none, .q (.mv (.v (.int .i64 0))), []⟩]) Q a σ := id rfl
@[go_sem] theorem c6_3_wp (P : Program) (Q : APost) (a : AFr) (σ : ASt) : c6_3.wp P Q a σ = ACode.wp P (.ops [
    ⟨(some 22), none, .q (.mv (.t 5)), []⟩,
    ⟨(some 23), none, .q (.mv (.t 0)), []⟩,
    ⟨(some 24), none, .q (.lenS (.t 23)), []⟩,
    ⟨(some 25), none, .q (.bin .lss (.t 22) (.t 24)), []⟩]) Q a σ := id rfl
@[go_sem] theorem c6_4_wp (P : Program) (Q : APost) (a : AFr) (σ : ASt) : c6_4.wp P Q a σ = ACode.wp P (.cond (.t 25) .skip (.exit 0)) Q a σ := id rfl
@[go_sem] theorem c6_5_wp (P : Program) (Q : APost) (a : AFr) (σ : ASt) : c6_5.wp P Q a σ = ACode.wp P (.seq c6_3 c6_4) Q a σ := id rfl
@[go_sem] theorem c6_6_wp (P : Program) (Q : APost) (a : AFr) (σ : ASt) : c6_6.wp P Q a σ = ACode.wp P (.ops [
    ⟨(some 28), none, .q (.mv (.t 0)), []⟩,
    ⟨(some 29), none, .q (.mv (.t 5)), []⟩,
    ⟨(some 30), none, .q (.idx (.t 28) (.t 29)), []⟩,
    ⟨(some 31), none, .q (.bin .eql (.t 30) (.v (.int .u8 34))), []⟩]) Q a σ := id rfl
@[go_sem] theorem c6_7_wp (P : Program) (Q : APost) (a : AFr) (σ : ASt) : c6_7.wp P Q a σ = ACode.wp P (.ops [
    ⟨(some 32), none, .e (.call 23 []), []⟩,
    ⟨(some 4), none, .q (.mv (.t 32)), []⟩]) Q a σ := id rfl
@[go_sem] theorem c6_8_wp (P : Program) (Q : APost) (a : AFr) (σ : ASt) : c6_8.wp P Q a σ = ACode.wp P (.seq c6_7 .ret) Q a σ := id rfl
@[go_sem] theorem c6_9_wp (P : Program) (Q : APost) (a : AFr) (σ : ASt) : c6_9.wp P Q a σ = ACode.wp P (.cond (.t 31) c6_8 .skip) Q a σ := id rfl
@[go_sem] theorem c6_10_wp (P : Program) (Q : APost) (a : AFr) (σ : ASt) : c6_10.wp P Q a σ = ACode.wp P (.seq c6_6 c6_9) Q a σ := id rfl
@[go_sem] theorem c6_11_wp (P : Program) (Q : APost) (a : AFr) (σ : ASt) : c6_11.wp P Q a σ = ACode.wp P (.block 1 c6_10) Q a σ := id rfl
@[go_sem] theorem c6_12_wp (P : Program) (Q : APost) (a : AFr) (σ : ASt) : c6_12.wp P Q a σ = ACode.wp P (.ops [
    ⟨(some 26), none, .q (.mv (.t 5)), []⟩,
    ⟨(some 27), none, .q (.bin .add (.t 26) (.v (.int .i64 1))), []⟩,
    ⟨(some 5), none, .q (.mv (.t 27)), []⟩]) Q a σ := id rfl
@[go_sem] theorem c6_13_wp (P : Program) (Q : APost) (a : AFr) (σ : ASt) : c6_13.wp P Q a σ = ACode.wp P (.seq c6_11 c6_12) Q a σ := id rfl
@[go_sem] theorem c6_14_wp (P : Program) (Q : APost) (a : AFr) (σ : ASt) : c6_14.wp P Q a σ = ACode.wp P (.seq c6_5 c6_13) Q a σ := id rfl
@[go_sem] theorem c6_15_wp (P : Program) (Q : APost) (a : AFr) (σ : ASt) : c6_15.wp P Q a σ = ACode.wp P (.loop c6_14) Q a σ := id rfl
@[go_sem] theorem c6_16_wp (P : Program) (Q : APost) (a : AFr) (σ : ASt) : c6_16.wp P Q a σ = ACode.wp P (.block 0 c6_15) Q a σ := id rfl
@[go_sem] theorem c6_17_wp (P : Program) (Q : APost) (a : AFr) (σ : ASt) : c6_17.wp P Q a σ = ACode.wp P (.seq c6_2 c6_16) Q a σ := id rfl
@[go_sem] theorem c6_18_wp (P : Program) (Q : APost) (a : AFr) (σ : ASt) : c6_18.wp P Q a σ = ACode.wp P (.ops [
    ⟨(some 34), none, .q (.mv (.t 0)), []⟩,
    ⟨(some 35), none, .e (.call 24 [(.t 34)]), []⟩,
    ⟨(some 33), none, .q (.mv (.t 35)), []⟩,
    ⟨(some 36), none, .q (.ext 0 (.t 33)), []⟩,
    ⟨(some 37), none, .q (.ext 1 (.t 33)), []⟩,
    ⟨(some 38), none, .q (.ext 2 (.t 33)), []⟩,
    ⟨(some 6), none, .q (.mv (.t 36)), []⟩,
    ⟨(some 7), none, .q (.mv (.t 37)), []⟩,
    ⟨(some 8), none, .q (.mv (.t 38)), []⟩]) Q a σ := id rfl
@[go_sem] theorem c6_19_wp (P : Program) (Q : APost) (a : AFr) (σ : ASt) : c6_19.wp P Q a σ = ACode.wp P (.ops [
    ⟨(some 40), none, .q (.mv (.t 1)), []⟩,
    ⟨(some 41), none, .e (.call 24 [(.t 40)]), []⟩,
    ⟨(some 39), none, .q (.mv (.t 41)), []⟩,
    ⟨(some 42), none, .q (.ext 0 (.t 39)), []⟩,
    ⟨(some 43), none, .q (.ext 1 (.t 39)), []⟩,
    ⟨(some 44), none, .q (.ext 2 (.t 39)), []⟩,
    ⟨(some 9), none, .q (.mv (.t 42)), []⟩,
    ⟨(some 10), none, .q (.mv (.t 43)), []⟩,
    ⟨(some 11), none, .q (.mv (.t 44)), []⟩]) Q a σ := id rfl
@[go_sem] theorem c6_20_wp (P : Program) (Q : APost) (a : AFr) (σ : ASt) : c6_20.wp P Q a σ = ACode.wp P (.ops [
    ⟨(some 45), none, .q (.mv (.t 8)), []⟩,
    ⟨(some 46), none, .q (.bin .neq (.t 45) (.v (.int .i64 0))), []⟩,
    ⟨(some 47), none, .q (.mv (.t 46)), []⟩,
    ⟨(some 48), (some (47, false)), .q (.mv (.t 11)), []⟩,
    ⟨(some 49), (some (47, false)), .q (.bin .neq (.t 48) (.v (.int .i64 0))), []⟩,
    ⟨(some 50), none, .q (.pick (.t 47) (.v (.bool true)) (.t 49)), []⟩,
    ⟨(some 51), none, .q (.mv (.t 50)), []⟩,
    ⟨(some 52), (some (51, false)), .q (.mv (.t 6)), []⟩,
    ⟨(some 53), (some (51, false)), .q (.len (.t 52)), []⟩,
    ⟨(some 54), (some (51, false)), .q (.bin .eql (.t 53) (.v (.int .i64 0))), []⟩,
    ⟨(some 55), none, .q (.pick (.t 51) (.v (.bool true)) (.t 54)), []⟩,
    ⟨(some 56), none, .q (.mv (.t 55)), []⟩,
    ⟨(some 57), (some (56, false)), .q (.mv (.t 9)), []⟩,
    ⟨(some 58), (some (56, false)), .q (.len (.t 57)), []⟩,
    ⟨(some 59), (some (56, false)), .q (.bin .eql (.t 58) (.v (.int .i64 0))), []⟩,
    ⟨(some 60), none, .q (.pick (.t 56) (.v (.bool true)) (.t 59)), []⟩]) Q a σ := id rfl
@[go_sem] theorem c6_21_wp (P : Program) (Q : APost) (a : AFr) (σ : ASt) : c6_21.wp P Q a σ = ACode.wp P (.ops [
    ⟨(some 61), none, .e (.call 23 []), []⟩,
    ⟨(some 4), none, .q (.mv (.t 61)), []⟩]) Q a σ := id rfl
@[go_sem] theorem c6_22_wp (P : Program) (Q : APost) (a : AFr) (σ : ASt) : c6_22.wp P Q a σ = ACode.wp P (.seq c6_21 .ret) Q a σ := id rfl
@[go_sem] theorem c6_23_wp (P : Program) (Q : APost) (a : AFr) (σ : ASt) : c6_23.wp P Q a σ = ACode.wp P (.cond (.t 60) c6_22 .skip) Q a σ := id rfl
@[go_sem] theorem c6_24_wp (P : Program) (Q : APost) (a : AFr) (σ : ASt) : c6_24.wp P Q a σ = ACode.wp P (.seq c6_20 c6_23) Q a σ := id rfl
@[go_sem] theorem c6_25_wp (P : Program) (Q : APost) (a : AFr) (σ : ASt) : c6_25.wp P Q a σ = ACode.wp P (.ops [
    ⟨(some 63), none, .q (.mv (.t 0)), []⟩,
    ⟨(some 64), none, .q (.bin .add (.t 63) (.v (.str [32]))), []⟩,
    ⟨(some 65), none, .q (.mv (.t 1)), []⟩,
    ⟨(some 66), none, .q (.bin .add (.t 64) (.t 65)), []⟩,
    ⟨(some 67), none, .e (.call 24 [(.t 66)]), []⟩,
    ⟨(some 62), none, .q (.mv (.t 67)), []⟩,
    ⟨(some 68), none, .q (.ext 0 (.t 62)), []⟩,
    ⟨(some 69), none, .q (.ext 1 (.t 62)), []⟩,
    ⟨(some 70), none, .q (.ext 2 (.t 62)), []⟩,
    ⟨(some 12), none, .q (.mv (.t 68)), []⟩,
    ⟨(some 13), none, .q (.mv (.t 69)), []⟩,
    ⟨(some 14), none, .q (.mv (.t 70)), []⟩]) Q a σ := id rfl
@[go_sem] theorem c6_26_wp (P : Program) (Q : APost) (a : AFr) (σ : ASt) : c6_26.wp P Q a σ = ACode.wp P (.ops [
    ⟨(some 71), none, .q (.mv (.t 14)), []⟩,
    ⟨(some 72), none, .q (.bin .neq (.t 71) (.v (.int .i64 0))), []⟩,
    ⟨(some 73), none, .q (.mv (.t 72)), []⟩,
    ⟨(some 74), (some (73, false)), .q (.mv (.t 12)), []⟩,
    ⟨(some 75), (some (73, false)), .q (.len (.t 74)), []⟩,
    ⟨(some 76), (some (73, false)), .q (.mv (.t 6)), []⟩,
    ⟨(some 77), (some (73, false)), .q (.len (.t 76)), []⟩,
    ⟨(some 78), (some (73, false)), .q (.mv (.t 9)), []⟩,
    ⟨(some 79), (some (73, false)), .q (.len (.t 78)), []⟩,
    ⟨(some 80), (some (73, false)), .q (.bin .add (.t 77) (.t 79)), []⟩,
    ⟨(some 81), (some (73, false)), .q (.bin .sub (.t 80) (.v (.int .i64 1))), []⟩,
    ⟨(some 82), (some (73, false)), .q (.bin .neq (.t 75) (.t 81)), []⟩,
    ⟨(some 83), none, .q (.pick (.t 73) (.v (.bool true)) (.t 82)), []⟩]) Q a σ := id rfl
@[go_sem] theorem c6_27_wp (P : Program) (Q : APost) (a : AFr) (σ : ASt) : c6_27.wp P Q a σ = ACode.wp P (.ops [
    ⟨(some 4), none, .q (.mv (.v (.bool false))), []⟩]) Q a σ := id rfl
@[go_sem] theorem c6_28_wp (P : Program) (Q : APost) (a : AFr) (σ : ASt) : c6_28.wp P Q a σ = ACode.wp P (.seq c6_27 .ret) Q a σ := id rfl
@[go_sem] theorem c6_29_wp (P : Program) (Q : APost) (a : AFr) (σ : ASt) : c6_29.wp P Q a σ = ACode.wp P (.cond (.t 83) c6_28 .skip) Q a σ := id rfl
@[go_sem] theorem c6_30_wp (P : Program) (Q : APost) (a : AFr) (σ : ASt) : c6_30.wp P Q a σ = ACode.wp P (.seq c6_26 c6_29) Q a σ := id rfl
@[go_sem] theorem c6_31_wp (P : Program) (Q : APost) (a : AFr) (σ : ASt) : c6_31.wp P Q a σ = ACode.wp P (.ops [
    ⟨(some 84), none, .q (.mv (.t 12)), []⟩,
    ⟨(some 85), none, .q (.len (.t 84)), []⟩,
    ⟨(some 86), none, .q (.mv (.v (.int .i64 0))), []⟩]) Q a σ := id rfl
@[go_sem] theorem c6_32_wp (P : Program) (Q : APost) (a : AFr) (σ : ASt) : c6_32.wp P Q a σ = ACode.wp P (.ops [
    ⟨(some 87), none, .q (.bin .lss (.t 86) (.t 85)), []⟩]) Q a σ := id rfl
@[go_sem] theorem c6_33_wp (P : Program) (Q : APost) (a : AFr) (σ : ASt) : c6_33.wp P Q a σ = ACode.wp P (.cond (.t 87) .skip (.exit 2)) Q a σ := id rfl
@[go_sem] theorem c6_34_wp (P : Program) (Q : APost) (a : AFr) (σ : ASt) : c6_34.wp P Q a σ = ACode.wp P (.ops [
    ⟨(some 88), none, .q (.mv (.t 86)), []⟩,
    ⟨(some 89), none, .q (.ia 4 (.t 84) (.t 86)), []⟩,
    ⟨(some 90), none, .q (.ld (some 4) (.t 89)), []⟩,
    ⟨(some 16), none, .e (.alloc [(.int .i64 0), (.str []), (.int .i64 0), (.int .i64 0)]), []⟩,
    ⟨(some 15), none, .q (.mv (.t 88)), []⟩,
    ⟨none, none, .e (.store 4 (.t 16) (.t 90)), []⟩]) Q a σ := id rfl
@[go_sem] theorem c6_35_wp (P : Program) (Q : APost) (a : AFr) (σ : ASt) : c6_35.wp P Q a σ = ACode.wp P (.ops [
    ⟨(some 91), none, .q (.build [(.int .i64 0), (.str []), (.int .i64 0), (.int .i64 0)] []), []⟩,
    ⟨(some 17), none, .e (.alloc [(.int .i64 0), (.str []), (.int .i64 0), (.int .i64 0)]), []⟩,
    ⟨none, none, .e (.store 4 (.t 17) (.t 91)), []⟩]) Q a σ := id rfl
@[go_sem] theorem c6_36_wp (P : Program) (Q : APost) (a : AFr) (σ : ASt) : c6_36.wp P Q a σ = ACode.wp P (.ops [
    ⟨(some 92), none, .q (.mv (.t 15)), []⟩,
    ⟨(some 93), none, .q (.mv (.t 6)), []⟩,
    ⟨(some 94), none, .q (.len (.t 93)), []⟩,
    ⟨(some 95), none, .q (.bin .sub (.t 94) (.v (.int .i64 1))), []⟩,
    ⟨(some 96), none, .q (.bin .lss (.t 92) (.t 95)), []⟩]) Q a σ := id rfl
@[go_sem] theorem c6_37_wp (P : Program) (Q : APost) (a : AFr) (σ : ASt) : c6_37.wp P Q a σ = ACode.wp P (.ops [
    ⟨(some 97), none, .q (.mv (.t 6)), []⟩,
    ⟨(some 98), none, .q (.mv (.t 15)), []⟩,
    ⟨(some 99), none, .q (.ia 4 (.t 97) (.t 98)), []⟩,
    ⟨(some 100), none, .q (.ld (some 4) (.t 99)), []⟩,
    ⟨none, none, .e (.store 4 (.t 17) (.t 100)), []⟩]) Q a σ := id rfl
@[go_sem] theorem c6_38_wp (P : Program) (Q : APost) (a : AFr) (σ : ASt) : c6_38.wp P Q a σ = ACode.wp P (.ops [
    ⟨(some 101), none, .q (.mv (.t 9)), []⟩,
    ⟨(some 102), none, .q (.mv (.t 15)), []⟩,
    ⟨(some 103), none, .q (.mv (.t 6)), []⟩,
    ⟨(some 104), none, .q (.len (.t 103)), []⟩,
    ⟨(some 105), none, .q (.bin .sub (.t 102) (.t 104)), []⟩,
    ⟨(some 106), none, .q (.bin .add (.t 105) (.v (.int .i64 1))), []⟩,
    ⟨(some 107), none, .q (.ia 4 (.t 101) (.t 106)), []⟩,
    ⟨(some 108), none, .q (.ld (some 4) (.t 107)), []⟩,
    ⟨none, none, .e (.store 4 (.t 17) (.t 108)), []⟩]) Q a σ := id rfl
@[go_sem] theorem c6_39_wp (P : Program) (Q : APost) (a : AFr) (σ : ASt) : c6_39.wp P Q a σ = ACode.wp P (.ops [
    ⟨(some 109), none, .q (.fa 2 (.t 17)), []⟩,
    ⟨(some 110), none, .q (.ld none (.t 109)), []⟩,
    ⟨(some 111), none, .q (.mv (.t 0)), []⟩,
    ⟨(some 112), none, .q (.lenS (.t 111)), []⟩,
    ⟨(some 113), none, .q (.bin .add (.t 112) (.v (.int .i64 1))), []⟩,
    ⟨(some 114), none, .q (.bin .add (.t 110) (.t 113)), []⟩,
    ⟨(some 115), none, .q (.fa 2 (.t 17)), []⟩,
    ⟨none, none, .e (.store 1 (.t 115) (.t 114)), []⟩]) Q a σ := id rfl
@[go_sem] theorem c6_40_wp (P : Program) (Q : APost) (a : AFr) (σ : ASt) : c6_40.wp P Q a σ = ACode.wp P (.ops [
    ⟨(some 116), none, .q (.fa 3 (.t 17)), []⟩,
    ⟨(some 117), none, .q (.ld none (.t 116)), []⟩,
    ⟨(some 118), none, .q (.mv (.t 6)), []⟩,
    ⟨(some 119), none, .q (.mv (.t 6)), []⟩,
    ⟨(some 120), none, .q (.len (.t 119)), []⟩,
    ⟨(some 121), none, .q (.bin .sub (.t 120) (.v (.int .i64 1))), []⟩,
    ⟨(some 122), none, .q (.ia 4 (.t 118) (.t 121)), []⟩,
    ⟨(some 123), none, .q (.fa 3 (.t 122)), []⟩,
    ⟨(some 124), none, .q (.ld none (.t 123)), []⟩,
    ⟨(some 125), none, .q (.bin .add (.t 124) (.v (.int .i64 1))), []⟩,
    ⟨(some 126), none, .q (.bin .add (.t 117) (.t 125)), []⟩,
    ⟨(some 127), none, .q (.fa 3 (.t 17)), []⟩,
    ⟨none, none, .e (.store 1 (.t 127) (.t 126)), []⟩]) Q a σ := id rfl
@[go_sem] theorem c6_41_wp (P : Program) (Q : APost) (a : AFr) (σ : ASt) : c6_41.wp P Q a σ = ACode.wp P (.seq c6_39 c6_40) Q a σ := id rfl
@[go_sem] theorem c6_42_wp (P : Program) (Q : APost) (a : AFr) (σ : ASt) : c6_42.wp P Q a σ = ACode.wp P (.seq c6_38 c6_41) Q a σ := id rfl
@[go_sem] theorem c6_43_wp (P : Program) (Q : APost) (a : AFr) (σ : ASt) : c6_43.wp P Q a σ = ACode.wp P (.cond (.t 96) c6_37 c6_42) Q a σ := id rfl
@[go_sem] theorem c6_44_wp (P : Program) (Q : APost) (a : AFr) (σ : ASt) : c6_44.wp P Q a σ = ACode.wp P (.seq c6_36 c6_43) Q a σ := id rfl
@[go_sem] theorem c6_45_wp (P : Program) (Q : APost) (a : AFr) (σ : ASt) : c6_45.wp P Q a σ = ACode.wp P (.ops [
    ⟨(some 128), none, .q (.ld (some 4) (.t 16)), []⟩,
    ⟨(some 129), none, .q (.ld (some 4) (.t 17)), []⟩,
    ⟨(some 130), none, .q (.eqs true [(0, 0), (1, 2), (2, 0), (3, 0)] (.t 128) (.t 129)), []⟩]) Q a σ := id rfl
@[go_sem] theorem c6_46_wp (P : Program) (Q : APost) (a : AFr) (σ : ASt) : c6_46.wp P Q a σ = ACode.wp P (.ops [
    ⟨(some 4), none, .q (.mv (.v (.bool false))), []⟩]) Q a σ := id rfl
@[go_sem] theorem c6_47_wp (P : Program) (Q : APost) (a : AFr) (σ : ASt) : c6_47.wp P Q a σ = ACode.wp P (.seq c6_46 .ret) Q a σ := id rfl
@[go_sem] theorem c6_48_wp (P : Program) (Q : APost) (a : AFr) (σ : ASt) : c6_48.wp P Q a σ = ACode.wp P (.cond (.t 130) c6_47 .skip) Q a σ := id rfl
@[go_sem] theorem c6_49_wp (P : Program) (Q : APost) (a : AFr) (σ : ASt) : c6_49.wp P Q a σ = ACode.wp P (.seq c6_45 c6_48) Q a σ := id rfl
@[go_sem] theorem c6_50_wp (P : Program) (Q : APost) (a : AFr) (σ : ASt) : c6_50.wp P Q a σ = ACode.wp P (.seq c6_44 c6_49) Q a σ := id rfl
@[go_sem] theorem c6_51_wp (P : Program) (Q : APost) (a : AFr) (σ : ASt) : c6_51.wp P Q a σ = ACode.wp P (.seq c6_35 c6_50) Q a σ := id rfl
@[go_sem] theorem c6_52_wp (P : Program) (Q : APost) (a : AFr) (σ : ASt) : c6_52.wp P Q a σ = ACode.wp P (.seq c6_34 c6_51) Q a σ := id rfl
@[go_sem] theorem c6_53_wp (P : Program) (Q : APost) (a : AFr) (σ : ASt) : c6_53.wp P Q a σ = ACode.wp P (.block 3 c6_52) Q a σ := id rfl
@[go_sem] theorem c6_54_wp (P : Program) (Q : APost) (a : AFr) (σ : ASt) : c6_54.wp P Q a σ = ACode.wp P (.ops [
    ⟨(some 131), none, .q (.bin .add (.t 86) (.v (.int .i64 1))), []⟩,
    ⟨(some 86), none, .q (.mv (.t 131)), []⟩]) Q a σ := id rfl
@[go_sem] theorem c6_55_wp (P : Program) (Q : APost) (a : AFr) (σ : ASt) : c6_55.wp P Q a σ = ACode.wp P (.seq c6_53 c6_54) Q a σ := id rfl
@[go_sem] theorem c6_56_wp (P : Program) (Q : APost) (a : AFr) (σ : ASt) : c6_56.wp P Q a σ = ACode.wp P (.seq c6_33 c6_55) Q a σ := id rfl
@[go_sem] theorem c6_57_wp (P : Program) (Q : APost) (a : AFr) (σ : ASt) : c6_57.wp P Q a σ = ACode.wp P (.seq c6_32 c6_56) Q a σ := id rfl
@[go_sem] theorem c6_58_wp (P : Program) (Q : APost) (a : AFr) (σ : ASt) : c6_58.wp P Q a σ = ACode.wp P (.loop c6_57) Q a σ := id rfl
@[go_sem] theorem c6_59_wp (P : Program) (Q : APost) (a : AFr) (σ : ASt) : c6_59.wp P Q a σ = ACode.wp P (.block 2 c6_58) Q a σ := id rfl
@[go_sem] theorem c6_60_wp (P : Program) (Q : APost) (a : AFr) (σ : ASt) : c6_60.wp P Q a σ = ACode.wp P (.seq c6_31 c6_59) Q a σ := id rfl
@[go_sem] theorem c6_61_wp (P : Program) (Q : APost) (a : AFr) (σ : ASt) : c6_61.wp P Q a σ = ACode.wp P (.ops [
    ⟨(some 132), none, .e (.call 23 []), []⟩,
    ⟨(some 4), none, .q (.mv (.t 132)), []⟩]) Q a σ := id rfl
@[go_sem] theorem c6_62_wp (P : Program) (Q : APost) (a : AFr) (σ : ASt) : c6_62.wp P Q a σ = ACode.wp P (.seq c6_61 .ret) Q a σ := id rfl
@[go_sem] theorem c6_63_wp (P : Program) (Q : APost) (a : AFr) (σ : ASt) : c6_63.wp P Q a σ = ACode.wp P (.seq c6_60 c6_62) Q a σ := id rfl
@[go_sem] theorem c6_64_wp (P : Program) (Q : APost) (a : AFr) (σ : ASt) : c6_64.wp P Q a σ = ACode.wp P (.seq c6_30 c6_63) Q a σ := id rfl
@[go_sem] theorem c6_65_wp (P : Program) (Q : APost) (a : AFr) (σ : ASt) : c6_65.wp P Q a σ = ACode.wp P (.seq c6_25 c6_64) Q a σ := id rfl
@[go_sem] theorem c6_66_wp (P : Program) (Q : APost) (a : AFr) (σ : ASt) : c6_66.wp P Q a σ = ACode.wp P (.seq c6_24 c6_65) Q a σ := id rfl
@[go_sem] theorem c6_67_wp (P : Program) (Q : APost) (a : AFr) (σ : ASt) : c6_67.wp P Q a σ = ACode.wp P (.seq c6_19 c6_66) Q a σ := id rfl
@[go_sem] theorem c6_68_wp (P : Program) (Q : APost) (a : AFr) (σ : ASt) : c6_68.wp P Q a σ = ACode.wp P (.seq c6_18 c6_67) Q a σ := id rfl
@[go_sem] theorem c6_69_wp (P : Program) (Q : APost) (a : AFr) (σ : ASt) : c6_69.wp P Q a σ = ACode.wp P (.seq c6_17 c6_68) Q a σ := id rfl
@[go_sem] theorem c6_70_wp (P : Program) (Q : APost) (a : AFr) (σ : ASt) : c6_70.wp P Q a σ = ACode.wp P (.seq c6_1 c6_69) Q a σ := id rfl
@[go_sem] theorem c6_71_wp (P : Program) (Q : APost) (a : AFr) (σ : ASt) : c6_71.wp P Q a σ = ACode.wp P (.seq c6_0 c6_70) Q a σ := id rfl
def c6 : AFn := ⟨133, [.t 4], c6_71⟩
set_option maxRecDepth 100000 in
theorem c6_ok : compF Tryd.prog Tryd.f6 = some c6 := by kernel_rfl
theorem a6 {args : List AV} {σ : ASt} {R : AV → ASt → Prop} (hl : args.length ≤ 133) (h : c6_71.wp Tryd.prog (RetQ [.t 4] R) (init args) σ) : ACalls Tryd.prog 6 args σ R := acalls_of Tryd.func6 c6_ok hl h

end Go.A
