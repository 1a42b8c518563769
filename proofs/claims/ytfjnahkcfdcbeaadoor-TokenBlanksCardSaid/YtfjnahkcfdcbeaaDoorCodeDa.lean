/- The functions, compiled: by program (wip/gencode.py). -/
import Derived.Test.YtfjnahkcfdcbeaaDoorBk
import Derived.Test.YtfjnahkcfdcbeaaDoorProg
import Derived.KernelRfl
namespace Go.A
open Go.Proofs

/-! 5: tabular/tabularlaw11.TokenBlanks -/
def c5_0 : ACode := .ops [
    ⟨(some 4), none, .q (.mv (.v (.bool false))), []⟩]
def c5_1 : ACode := .ops [
    ⟨(some 14), none, .q (.mv (.t 0)), []⟩,
    ⟨(some 15), none, .e (.call 15 [(.t 14), (.v (.int .i64 300))]), []⟩,
    ⟨(some 0), none, .q (.mv (.t 15)), []⟩]
def c5_2 : ACode := .ops [
    ⟨(some 16), none, .q (.mv (.t 1)), []⟩,
    ⟨(some 17), none, .q (.bin .lss (.t 16) (.v (.int .i64 0))), []⟩,
    ⟨(some 18), none, .q (.mv (.t 17)), []⟩,
    ⟨(some 19), (some (18, false)), .q (.mv (.t 1)), []⟩,
    ⟨(some 20), (some (18, false)), .q (.bin .gtr (.t 19) (.v (.int .i64 9))), []⟩,
    ⟨(some 21), none, .q (.pick (.t 18) (.v (.bool true)) (.t 20)), []⟩]
def c5_3 : ACode := .ops [
    ⟨(some 22), none, .e (.call 23 []), []⟩,
    ⟨(some 4), none, .q (.mv (.t 22)), []⟩]
def c5_4 : ACode := .seq c5_3 .ret
def c5_5 : ACode := .cond (.t 21) c5_4 .skip
def c5_6 : ACode := .seq c5_2 c5_5
def c5_7 : ACode := .ops [
    ⟨(some 5), none, .q (.mv (.v (.str []))), []⟩]
def c5_8 : ACode := .ops [
    ⟨(some 6), none, .q (.mv (.v (.int .i64 0))), []⟩]
def c5_9 : ACode := .ops [
    ⟨(some 23), none, .q (.mv (.t 6)), []⟩,
    ⟨(some 24), none, .q (.mv (.t 1)), []⟩,
    ⟨(some 25), none, .q (.bin .lss (.t 23) (.t 24)), []⟩]
def c5_10 : ACode := .cond (.t 25) .skip (.exit 0)
def c5_11 : ACode := .seq c5_9 c5_10
def c5_12 : ACode := .ops [
    ⟨(some 28), none, .q (.mv (.t 5)), []⟩,
    ⟨(some 29), none, .q (.mv (.t 6)), []⟩,
    ⟨(some 30), none, .q (.bin .rem (.t 29) (.v (.int .i64 3))), []⟩,
    ⟨(some 31), none, .q (.mv (.t 6)), []⟩,
    ⟨(some 32), none, .q (.bin .rem (.t 31) (.v (.int .i64 3))), []⟩,
    ⟨(some 33), none, .q (.bin .add (.t 32) (.v (.int .i64 1))), []⟩,
    ⟨(some 34), none, .q (.sls (true, 0) (.v (.str [32, 9, 10])) (.t 30) (.t 33)), []⟩,
    ⟨(some 35), none, .q (.bin .add (.t 28) (.t 34)), []⟩,
    ⟨(some 5), none, .q (.mv (.t 35)), []⟩]
def c5_13 : ACode := .block 1 c5_12
def c5_14 : ACode := .ops [
    ⟨(some 26), none, .q (.mv (.t 6)), []⟩,
    ⟨(some 27), none, .q (.bin .add (.t 26) (.v (.int .i64 1))), []⟩,
    ⟨(some 6), none, .q (.mv (.t 27)), []⟩]
def c5_15 : ACode := .seq c5_13 c5_14
def c5_16 : ACode := .seq c5_11 c5_15
def c5_17 : ACode := .loop c5_16
def c5_18 : ACode := .block 0 c5_17
def c5_19 : ACode := .seq c5_8 c5_18
def c5_20 : ACode := .ops [
    ⟨(some 37), none, .q (.mv (.t 0)), []⟩,
    ⟨(some 38), none, .e (.call 24 [(.t 37)]), []⟩,
    ⟨(some 36), none, .q (.mv (.t 38)), []⟩,
    ⟨(some 39), none, .q (.ext 0 (.t 36)), []⟩,
    ⟨(some 40), none, .q (.ext 1 (.t 36)), []⟩,
    ⟨(some 41), none, .q (.ext 2 (.t 36)), []⟩,
    ⟨(some 7), none, .q (.mv (.t 39)), []⟩,
    ⟨(some 8), none, .q (.mv (.t 40)), []⟩,
    ⟨(some 9), none, .q (.mv (.t 41)), []⟩]
def c5_21 : ACode := .ops [
    ⟨(some 43), none, .q (.mv (.t 5)), []⟩,
    ⟨(some 44), none, .q (.mv (.t 0)), []⟩,
    ⟨(some 45), none, .q (.bin .add (.t 43) (.t 44)), []⟩,
    ⟨(some 46), none, .q (.mv (.t 5)), []⟩,
    ⟨(some 47), none, .q (.bin .add (.t 45) (.t 46)), []⟩,
    ⟨(some 48), none, .e (.call 24 [(.t 47)]), []⟩,
    ⟨(some 42), none, .q (.mv (.t 48)), []⟩,
    ⟨(some 49), none, .q (.ext 0 (.t 42)), []⟩,
    ⟨(some 50), none, .q (.ext 1 (.t 42)), []⟩,
    ⟨(some 51), none, .q (.ext 2 (.t 42)), []⟩,
    ⟨(some 10), none, .q (.mv (.t 49)), []⟩,
    ⟨(some 11), none, .q (.mv (.t 50)), []⟩,
    ⟨(some 12), none, .q (.mv (.t 51)), []⟩]
def c5_22 : ACode := .ops [
    ⟨(some 52), none, .q (.mv (.t 9)), []⟩,
    ⟨(some 53), none, .q (.mv (.t 12)), []⟩,
    ⟨(some 54), none, .q (.bin .neq (.t 52) (.t 53)), []⟩,
    ⟨(some 55), none, .q (.mv (.t 54)), []⟩,
    ⟨(some 56), (some (55, false)), .q (.mv (.t 9)), []⟩,
    ⟨(some 57), (some (55, false)), .q (.bin .neq (.t 56) (.v (.int .i64 0))), []⟩,
    ⟨(some 58), (some (55, false)), .q (.mv (.t 57)), []⟩,
    ⟨(some 59), (some (58, true)), .q (.mv (.t 11)), []⟩,
    ⟨(some 60), (some (58, true)), .q (.mv (.t 8)), []⟩,
    ⟨(some 61), (some (58, true)), .q (.mv (.t 1)), []⟩,
    ⟨(some 62), (some (58, true)), .q (.bin .add (.t 60) (.t 61)), []⟩,
    ⟨(some 63), (some (58, true)), .q (.bin .neq (.t 59) (.t 62)), []⟩,
    ⟨(some 64), (some (55, false)), .q (.pick (.t 58) (.t 63) (.v (.bool false))), []⟩,
    ⟨(some 65), none, .q (.pick (.t 55) (.v (.bool true)) (.t 64)), []⟩,
    ⟨(some 66), none, .q (.mv (.t 65)), []⟩,
    ⟨(some 67), (some (66, false)), .q (.mv (.t 7)), []⟩,
    ⟨(some 68), (some (66, false)), .q (.len (.t 67)), []⟩,
    ⟨(some 69), (some (66, false)), .q (.mv (.t 10)), []⟩,
    ⟨(some 70), (some (66, false)), .q (.len (.t 69)), []⟩,
    ⟨(some 71), (some (66, false)), .q (.bin .neq (.t 68) (.t 70)), []⟩,
    ⟨(some 72), none, .q (.pick (.t 66) (.v (.bool true)) (.t 71)), []⟩]
def c5_23 : ACode := .ops [
    ⟨(some 4), none, .q (.mv (.v (.bool false))), []⟩]
def c5_24 : ACode := .seq c5_23 .ret
def c5_25 : ACode := .cond (.t 72) c5_24 .skip
def c5_26 : ACode := .seq c5_22 c5_25
def c5_27 : ACode := .ops [
    ⟨(some 73), none, .q (.mv (.t 7)), []⟩,
    ⟨(some 74), none, .q (.len (.t 73)), []⟩,
    ⟨(some 75), none, .q (.mv (.v (.int .i64 0))), []⟩]
def c5_28 : ACode := .ops [
    ⟨(some 76), none, .q (.bin .lss (.t 75) (.t 74)), []⟩]
def c5_29 : ACode := .cond (.t 76) .skip (.exit 2)
def c5_30 : ACode := .ops [
    ⟨(some 77), none, .q (.mv (.t 75)), []⟩,
    ⟨(some 13), none, .q (.mv (.t 77)), []⟩]
def c5_31 : ACode := .ops [
    ⟨(some 78), none, .q (.mv (.t 7)), []⟩,
    ⟨(some 79), none, .q (.mv (.t 13)), []⟩,
    ⟨(some 80), none, .q (.ia 4 (.t 78) (.t 79)), []⟩,
    ⟨(some 81), none, .q (.fa 0 (.t 80)), []⟩,
    ⟨(some 82), none, .q (.ld none (.t 81)), []⟩,
    ⟨(some 83), none, .q (.mv (.t 10)), []⟩,
    ⟨(some 84), none, .q (.mv (.t 13)), []⟩,
    ⟨(some 85), none, .q (.ia 4 (.t 83) (.t 84)), []⟩,
    ⟨(some 86), none, .q (.fa 0 (.t 85)), []⟩,
    ⟨(some 87), none, .q (.ld none (.t 86)), []⟩,
    ⟨(some 88), none, .q (.bin .neq (.t 82) (.t 87)), []⟩,
    ⟨(some 89), none, .q (.mv (.t 88)), []⟩,
    ⟨(some 90), (some (89, false)), .q (.mv (.t 7)), []⟩,
    ⟨(some 91), (some (89, false)), .q (.mv (.t 13)), []⟩,
    ⟨(some 92), (some (89, false)), .q (.ia 4 (.t 90) (.t 91)), []⟩,
    ⟨(some 93), (some (89, false)), .q (.fa 1 (.t 92)), []⟩,
    ⟨(some 94), (some (89, false)), .q (.ld none (.t 93)), []⟩,
    ⟨(some 95), (some (89, false)), .q (.mv (.t 10)), []⟩,
    ⟨(some 96), (some (89, false)), .q (.mv (.t 13)), []⟩,
    ⟨(some 97), (some (89, false)), .q (.ia 4 (.t 95) (.t 96)), []⟩,
    ⟨(some 98), (some (89, false)), .q (.fa 1 (.t 97)), []⟩,
    ⟨(some 99), (some (89, false)), .q (.ld none (.t 98)), []⟩,
    ⟨(some 100), (some (89, false)), .q (.bin .neq (.t 94) (.t 99)), []⟩,
    ⟨(some 101), none, .q (.pick (.t 89) (.v (.bool true)) (.t 100)), []⟩,
    ⟨(some 102), none, .q (.mv (.t 101)), []⟩,
    ⟨(some 103), (some (102, false)), .q (.mv (.t 7)), []⟩,
    ⟨(some 104), (some (102, false)), .q (.mv (.t 13)), []⟩,
    ⟨(some 105), (some (102, false)), .q (.ia 4 (.t 103) (.t 104)), []⟩,
    ⟨(some 106), (some (102, false)), .q (.fa 0 (.t 105)), []⟩,
    ⟨(some 107), (some (102, false)), .q (.ld none (.t 106)), []⟩,
    ⟨(some 108), (some (102, false)), .q (.bin .neq (.t 107) (.v (.int .i64 0))), []⟩,
    ⟨(some 109), (some (102, false)), .q (.mv (.t 108)), []⟩,
    ⟨(some 110), (some (109, true)), .q (.mv (.t 10)), []⟩,
    ⟨(some 111), (some (109, true)), .q (.mv (.t 13)), []⟩,
    ⟨(some 112), (some (109, true)), .q (.ia 4 (.t 110) (.t 111)), []⟩,
    ⟨(some 113), (some (109, true)), .q (.fa 2 (.t 112)), []⟩,
    ⟨(some 114), (some (109, true)), .q (.ld none (.t 113)), []⟩,
    ⟨(some 115), (some (109, true)), .q (.mv (.t 7)), []⟩,
    ⟨(some 116), (some (109, true)), .q (.mv (.t 13)), []⟩,
    ⟨(some 117), (some (109, true)), .q (.ia 4 (.t 115) (.t 116)), []⟩,
    ⟨(some 118), (some (109, true)), .q (.fa 2 (.t 117)), []⟩,
    ⟨(some 119), (some (109, true)), .q (.ld none (.t 118)), []⟩,
    ⟨(some 120), (some (109, true)), .q (.mv (.t 1)), []⟩,
    ⟨(some 121), (some (109, true)), .q (.bin .add (.t 119) (.t 120)), []⟩,
    ⟨(some 122), (some (109, true)), .q (.bin .neq (.t 114) (.t 121)), []⟩,
    ⟨(some 123), (some (109, true)), .q (.mv (.t 122)), []⟩,
    ⟨(some 124), (some (123, false)), .q (.mv (.t 10)), []⟩,
    ⟨(some 125), (some (123, false)), .q (.mv (.t 13)), []⟩,
    ⟨(some 126), (some (123, false)), .q (.ia 4 (.t 124) (.t 125)), []⟩,
    ⟨(some 127), (some (123, false)), .q (.fa 3 (.t 126)), []⟩,
    ⟨(some 128), (some (123, false)), .q (.ld none (.t 127)), []⟩,
    ⟨(some 129), (some (123, false)), .q (.mv (.t 7)), []⟩,
    ⟨(some 130), (some (123, false)), .q (.mv (.t 13)), []⟩,
    ⟨(some 131), (some (123, false)), .q (.ia 4 (.t 129) (.t 130)), []⟩,
    ⟨(some 132), (some (123, false)), .q (.fa 3 (.t 131)), []⟩,
    ⟨(some 133), (some (123, false)), .q (.ld none (.t 132)), []⟩,
    ⟨(some 134), (some (123, false)), .q (.mv (.t 1)), []⟩,
    ⟨(some 135), (some (123, false)), .q (.bin .add (.t 133) (.t 134)), []⟩,
    ⟨(some 136), (some (123, false)), .q (.bin .neq (.t 128) (.t 135)), []⟩,
    ⟨(some 137), (some (109, true)), .q (.pick (.t 123) (.v (.bool true)) (.t 136)), []⟩,
    ⟨(some 138), (some (102, false)), .q (.pick (.t 109) (.t 137) (.v (.bool false))), []⟩,
    ⟨(some 139), none, .q (.pick (.t 102) (.v (.bool true)) (.t 138)), []⟩]
def c5_32 : ACode := .ops [
    ⟨(some 4), none, .q (.mv (.v (.bool false))), []⟩]
def c5_33 : ACode := .seq c5_32 .ret
def c5_34 : ACode := .cond (.t 139) c5_33 .skip
def c5_35 : ACode := .seq c5_31 c5_34
def c5_36 : ACode := .seq c5_30 c5_35
def c5_37 : ACode := .block 3 c5_36
def c5_38 : ACode := .ops [
    ⟨(some 140), none, .q (.bin .add (.t 75) (.v (.int .i64 1))), []⟩,
    ⟨(some 75), none, .q (.mv (.t 140)), []⟩]
def c5_39 : ACode := .seq c5_37 c5_38
def c5_40 : ACode := .seq c5_29 c5_39
def c5_41 : ACode := .seq c5_28 c5_40
def c5_42 : ACode := .loop c5_41
def c5_43 : ACode := .block 2 c5_42
def c5_44 : ACode := .seq c5_27 c5_43
def c5_45 : ACode := .ops [
    ⟨(some 141), none, .e (.call 23 []), []⟩,
    ⟨(some 4), none, .q (.mv (.t 141)), []⟩]
def c5_46 : ACode := .seq c5_45 .ret
def c5_47 : ACode := .seq c5_44 c5_46
def c5_48 : ACode := .seq c5_26 c5_47
def c5_49 : ACode := .seq c5_21 c5_48
def c5_50 : ACode := .seq c5_20 c5_49
def c5_51 : ACode := .seq c5_19 c5_50
def c5_52 : ACode := .seq c5_7 c5_51
def c5_53 : ACode := .seq c5_6 c5_52
def c5_54 : ACode := .seq c5_1 c5_53
def c5_55 : ACode := .seq c5_0 c5_54
@[go_sem] theorem c5_0_wp (P : Program) (Q : APost) (a : AFr) (σ : ASt) : c5_0.wp P Q a σ = ACode.wp P (.ops [
    ⟨(some 4), none, .q (.mv (.v (.bool false))), []⟩]) Q a σ := id rfl
@[go_sem] theorem c5_1_wp (P : Program) (Q : APost) (a : AFr) (σ : ASt) : c5_1.wp P Q a σ = ACode.wp P (.ops [
    ⟨(some 14), none, .q (.mv (.t 0)), []⟩,
    ⟨(some 15), none, .e (.call 15 [(.t 14), (.v (.int .i64 300))]), []⟩,
    ⟨(some 0), none, .q (.mv (.t 15)), []⟩]) Q a σ := id rfl
@[go_sem] theorem c5_2_wp (P : Program) (Q : APost) (a : AFr) (σ : ASt) : c5_2.wp P Q a σ = ACode.wp P (.ops [
    ⟨(some 16), none, .q (.mv (.t 1)), []⟩,
    ⟨(some 17), none, .q (.bin .lss (.t 16) (.v (.int .i64 0))), []⟩,
    ⟨(some 18), none, .q (.mv (.t 17)), []⟩,
    ⟨(some 19), (some (18, false)), .q (.mv (.t 1)), []⟩,
    ⟨(some 20), (some (18, false)), .q (.bin .gtr (.t 19) (.v (.int .i64 9))), []⟩,
    ⟨(some 21), none, .q (.pick (.t 18) (.v (.bool true)) (.t 20)), []⟩]) Q a σ := id rfl
@[go_sem] theorem c5_3_wp (P : Program) (Q : APost) (a : AFr) (σ : ASt) : c5_3.wp P Q a σ = ACode.wp P (.ops [
    ⟨(some 22), none, .e (.call 23 []), []⟩,
    ⟨(some 4), none, .q (.mv (.t 22)), []⟩]) Q a σ := id rfl
@[go_sem] theorem c5_4_wp (P : Program) (Q : APost) (a : AFr) (σ : ASt) : c5_4.wp P Q a σ = ACode.wp P (.seq c5_3 .ret) Q a σ := id rfl
@[go_sem] theorem c5_5_wp (P : Program) (Q : APost) (a : AFr) (σ : ASt) : c5_5.wp P Q a σ = ACode.wp P (.cond (.t 21) c5_4 .skip) Q a σ := id rfl
@[go_sem] theorem c5_6_wp (P : Program) (Q : APost) (a : AFr) (σ : ASt) : c5_6.wp P Q a σ = ACode.wp P (.seq c5_2 c5_5) Q a σ := id rfl
@[go_sem] theorem c5_7_wp (P : Program) (Q : APost) (a : AFr) (σ : ASt) : c5_7.wp P Q a σ = ACode.wp P (.ops [
    ⟨(some 5), none, .q (.mv (.v (.str []))), []⟩]) Q a σ := id rfl
@[go_sem] theorem c5_8_wp (P : Program) (Q : APost) (a : AFr) (σ : ASt) : c5_8.wp P Q a σ = ACode.wp P (.ops [
    ⟨(some 6), none, .q (.mv (.v (.int .i64 0))), []⟩]) Q a σ := id rfl
@[go_sem] theorem c5_9_wp (P : Program) (Q : APost) (a : AFr) (σ : ASt) : c5_9.wp P Q a σ = ACode.wp P (.ops [
    ⟨(some 23), none, .q (.mv (.t 6)), []⟩,
    ⟨(some 24), none, .q (.mv (.t 1)), []⟩,
    ⟨(some 25), none, .q (.bin .lss (.t 23) (.t 24)), []⟩]) Q a σ := id rfl
@[go_sem] theorem c5_10_wp (P : Program) (Q : APost) (a : AFr) (σ : ASt) : c5_10.wp P Q a σ = ACode.wp P (.cond (.t 25) .skip (.exit 0)) Q a σ := id rfl
@[go_sem] theorem c5_11_wp (P : Program) (Q : APost) (a : AFr) (σ : ASt) : c5_11.wp P Q a σ = ACode.wp P (.seq c5_9 c5_10) Q a σ := id rfl
@[go_sem] theorem c5_12_wp (P : Program) (Q : APost) (a : AFr) (σ : ASt) : c5_12.wp P Q a σ = ACode.wp P (.ops [
    ⟨(some 28), none, .q (.mv (.t 5)), []⟩,
    ⟨(some 29), none, .q (.mv (.t 6)), []⟩,
    ⟨(some 30), none, .q (.bin .rem (.t 29) (.v (.int .i64 3))), []⟩,
    ⟨(some 31), none, .q (.mv (.t 6)), []⟩,
    ⟨(some 32), none, .q (.bin .rem (.t 31) (.v (.int .i64 3))), []⟩,
    ⟨(some 33), none, .q (.bin .add (.t 32) (.v (.int .i64 1))), []⟩,
    ⟨(some 34), none, .q (.sls (true, 0) (.v (.str [32, 9, 10])) (.t 30) (.t 33)), []⟩,
    ⟨(some 35), none, .q (.bin .add (.t 28) (.t 34)), []⟩,
    ⟨(some 5), none, .q (.mv (.t 35)), []⟩]) Q a σ := id rfl
@[go_sem] theorem c5_13_wp (P : Program) (Q : APost) (a : AFr) (σ : ASt) : c5_13.wp P Q a σ = ACode.wp P (.block 1 c5_12) Q a σ := id rfl
@[go_sem] theorem c5_14_wp (P : Program) (Q : APost) (a : AFr) (σ : ASt) : c5_14.wp P Q a σ = ACode.wp P (.ops [
    ⟨(some 26), none, .q (.mv (.t 6)), []⟩,
    ⟨(some 27), none, .q (.bin .add (.t 26) (.v (.int .i64 1))), []⟩,
    ⟨(some 6), none, .q (.mv (.t 27)), []⟩]) Q a σ := id rfl
@[go_sem] theorem c5_15_wp (P : Program) (Q : APost) (a : AFr) (σ : ASt) : c5_15.wp P Q a σ = ACode.wp P (.seq c5_13 c5_14) Q a σ := id rfl
@[go_sem] theorem c5_16_wp (P : Program) (Q : APost) (a : AFr) (σ : ASt) : c5_16.wp P Q a σ = ACode.wp P (.seq c5_11 c5_15) Q a σ := id rfl
@[go_sem] theorem c5_17_wp (P : Program) (Q : APost) (a : AFr) (σ : ASt) : c5_17.wp P Q a σ = ACode.wp P (.loop c5_16) Q a σ := id rfl
@[go_sem] theorem c5_18_wp (P : Program) (Q : APost) (a : AFr) (σ : ASt) : c5_18.wp P Q a σ = ACode.wp P (.block 0 c5_17) Q a σ := id rfl
@[go_sem] theorem c5_19_wp (P : Program) (Q : APost) (a : AFr) (σ : ASt) : c5_19.wp P Q a σ = ACode.wp P (.seq c5_8 c5_18) Q a σ := id rfl
@[go_sem] theorem c5_20_wp (P : Program) (Q : APost) (a : AFr) (σ : ASt) : c5_20.wp P Q a σ = ACode.wp P (.ops [
    ⟨(some 37), none, .q (.mv (.t 0)), []⟩,
    ⟨(some 38), none, .e (.call 24 [(.t 37)]), []⟩,
    ⟨(some 36), none, .q (.mv (.t 38)), []⟩,
    ⟨(some 39), none, .q (.ext 0 (.t 36)), []⟩,
    ⟨(some 40), none, .q (.ext 1 (.t 36)), []⟩,
    ⟨(some 41), none, .q (.ext 2 (.t 36)), []⟩,
    ⟨(some 7), none, .q (.mv (.t 39)), []⟩,
    ⟨(some 8), none, .q (.mv (.t 40)), []⟩,
    ⟨(some 9), none, .q (.mv (.t 41)), []⟩]) Q a σ := id rfl
@[go_sem] theorem c5_21_wp (P : Program) (Q : APost) (a : AFr) (σ : ASt) : c5_21.wp P Q a σ = ACode.wp P (.ops [
    ⟨(some 43), none, .q (.mv (.t 5)), []⟩,
    ⟨(some 44), none, .q (.mv (.t 0)), []⟩,
    ⟨(some 45), none, .q (.bin .add (.t 43) (.t 44)), []⟩,
    ⟨(some 46), none, .q (.mv (.t 5)), []⟩,
    ⟨(some 47), none, .q (.bin .add (.t 45) (.t 46)), []⟩,
    ⟨(some 48), none, .e (.call 24 [(.t 47)]), []⟩,
    ⟨(some 42), none, .q (.mv (.t 48)), []⟩,
    ⟨(some 49), none, .q (.ext 0 (.t 42)), []⟩,
    ⟨(some 50), none, .q (.ext 1 (.t 42)), []⟩,
    ⟨(some 51), none, .q (.ext 2 (.t 42)), []⟩,
    ⟨(some 10), none, .q (.mv (.t 49)), []⟩,
    ⟨(some 11), none, .q (.mv (.t 50)), []⟩,
    ⟨(some 12), none, .q (.mv (.t 51)), []⟩]) Q a σ := id rfl
@[go_sem] theorem c5_22_wp (P : Program) (Q : APost) (a : AFr) (σ : ASt) : c5_22.wp P Q a σ = ACode.wp P (.ops [
    ⟨(some 52), none, .q (.mv (.t 9)), []⟩,
    ⟨(some 53), none, .q (.mv (.t 12)), []⟩,
    ⟨(some 54), none, .q (.bin .neq (.t 52) (.t 53)), []⟩,
    ⟨(some 55), none, .q (.mv (.t 54)), []⟩,
    ⟨(some 56), (some (55, false)), .q (.mv (.t 9)), []⟩,
    ⟨(some 57), (some (55, false)), .q (.bin .neq (.t 56) (.v (.int .i64 0))), []⟩,
    ⟨(some 58), (some (55, false)), .q (.mv (.t 57)), []⟩,
    ⟨(some 59), (some (58, true)), .q (.mv (.t 11)), []⟩,
    ⟨(some 60), (some (58, true)), .q (.mv (.t 8)), []⟩,
    ⟨(some 61), (some (58, true)), .q (.mv (.t 1)), []⟩,
    ⟨(some 62), (some (58, true)), .q (.bin .add (.t 60) (.t 61)), []⟩,
    ⟨(some 63), (some (58, true)), .q (.bin .neq (.t 59) (.t 62)), []⟩,
    ⟨(some 64), (some (55, false)), .q (.pick (.t 58) (.t 63) (.v (.bool false))), []⟩,
    ⟨(some 65), none, .q (.pick (.t 55) (.v (.bool true)) (.t 64)), []⟩,
    ⟨(some 66), none, .q (.mv (.t 65)), []⟩,
    ⟨(some 67), (some (66, false)), .q (.mv (.t 7)), []⟩,
    ⟨(some 68), (some (66, false)), .q (.len (.t 67)), []⟩,
    ⟨(some 69), (some (66, false)), .q (.mv (.t 10)), []⟩,
    ⟨(some 70), (some (66, false)), .q (.len (.t 69)), []⟩,
    ⟨(some 71), (some (66, false)), .q (.bin .neq (.t 68) (.t 70)), []⟩,
    ⟨(some 72), none, .q (.pick (.t 66) (.v (.bool true)) (.t 71)), []⟩]) Q a σ := id rfl
@[go_sem] theorem c5_23_wp (P : Program) (Q : APost) (a : AFr) (σ : ASt) : c5_23.wp P Q a σ = ACode.wp P (.ops [
    ⟨(some 4), none, .q (.mv (.v (.bool false))), []⟩]) Q a σ := id rfl
@[go_sem] theorem c5_24_wp (P : Program) (Q : APost) (a : AFr) (σ : ASt) : c5_24.wp P Q a σ = ACode.wp P (.seq c5_23 .ret) Q a σ := id rfl
@[go_sem] theorem c5_25_wp (P : Program) (Q : APost) (a : AFr) (σ : ASt) : c5_25.wp P Q a σ = ACode.wp P (.cond (.t 72) c5_24 .skip) Q a σ := id rfl
@[go_sem] theorem c5_26_wp (P : Program) (Q : APost) (a : AFr) (σ : ASt) : c5_26.wp P Q a σ = ACode.wp P (.seq c5_22 c5_25) Q a σ := id rfl
@[go_sem] theorem c5_27_wp (P : Program) (Q : APost) (a : AFr) (σ : ASt) : c5_27.wp P Q a σ = ACode.wp P (.ops [
    ⟨(some 73), none, .q (.mv (.t 7)), []⟩,
    ⟨(some 74), none, .q (.len (.t 73)), []⟩,
    ⟨(some 75), none, .q (.mv (.v (.int .i64 0))), []⟩]) Q a σ := id rfl
@[go_sem] theorem c5_28_wp (P : Program) (Q : APost) (a : AFr) (σ : ASt) : c5_28.wp P Q a σ = ACode.wp P (.ops [
    ⟨(some 76), none, .q (.bin .lss (.t 75) (.t 74)), []⟩]) Q a σ := id rfl
@[go_sem] theorem c5_29_wp (P : Program) (Q : APost) (a : AFr) (σ : ASt) : c5_29.wp P Q a σ = ACode.wp P (.cond (.t 76) .skip (.exit 2)) Q a σ := id rfl
@[go_sem] theorem c5_30_wp (P : Program) (Q : APost) (a : AFr) (σ : ASt) : c5_30.wp P Q a σ = ACode.wp P (.ops [
    ⟨(some 77), none, .q (.mv (.t 75)), []⟩,
    ⟨(some 13), none, .q (.mv (.t 77)), []⟩]) Q a σ := id rfl
@[go_sem] theorem c5_31_wp (P : Program) (Q : APost) (a : AFr) (σ : ASt) : c5_31.wp P Q a σ = ACode.wp P (.ops [
    ⟨(some 78), none, .q (.mv (.t 7)), []⟩,
    ⟨(some 79), none, .q (.mv (.t 13)), []⟩,
    ⟨(some 80), none, .q (.ia 4 (.t 78) (.t 79)), []⟩,
    ⟨(some 81), none, .q (.fa 0 (.t 80)), []⟩,
    ⟨(some 82), none, .q (.ld none (.t 81)), []⟩,
    ⟨(some 83), none, .q (.mv (.t 10)), []⟩,
    ⟨(some 84), none, .q (.mv (.t 13)), []⟩,
    ⟨(some 85), none, .q (.ia 4 (.t 83) (.t 84)), []⟩,
    ⟨(some 86), none, .q (.fa 0 (.t 85)), []⟩,
    ⟨(some 87), none, .q (.ld none (.t 86)), []⟩,
    ⟨(some 88), none, .q (.bin .neq (.t 82) (.t 87)), []⟩,
    ⟨(some 89), none, .q (.mv (.t 88)), []⟩,
    ⟨(some 90), (some (89, false)), .q (.mv (.t 7)), []⟩,
    ⟨(some 91), (some (89, false)), .q (.mv (.t 13)), []⟩,
    ⟨(some 92), (some (89, false)), .q (.ia 4 (.t 90) (.t 91)), []⟩,
    ⟨(some 93), (some (89, false)), .q (.fa 1 (.t 92)), []⟩,
    ⟨(some 94), (some (89, false)), .q (.ld none (.t 93)), []⟩,
    ⟨(some 95), (some (89, false)), .q (.mv (.t 10)), []⟩,
    ⟨(some 96), (some (89, false)), .q (.mv (.t 13)), []⟩,
    ⟨(some 97), (some (89, false)), .q (.ia 4 (.t 95) (.t 96)), []⟩,
    ⟨(some 98), (some (89, false)), .q (.fa 1 (.t 97)), []⟩,
    ⟨(some 99), (some (89, false)), .q (.ld none (.t 98)), []⟩,
    ⟨(some 100), (some (89, false)), .q (.bin .neq (.t 94) (.t 99)), []⟩,
    ⟨(some 101), none, .q (.pick (.t 89) (.v (.bool true)) (.t 100)), []⟩,
    ⟨(some 102), none, .q (.mv (.t 101)), []⟩,
    ⟨(some 103), (some (102, false)), .q (.mv (.t 7)), []⟩,
    ⟨(some 104), (some (102, false)), .q (.mv (.t 13)), []⟩,
    ⟨(some 105), (some (102, false)), .q (.ia 4 (.t 103) (.t 104)), []⟩,
    ⟨(some 106), (some (102, false)), .q (.fa 0 (.t 105)), []⟩,
    ⟨(some 107), (some (102, false)), .q (.ld none (.t 106)), []⟩,
    ⟨(some 108), (some (102, false)), .q (.bin .neq (.t 107) (.v (.int .i64 0))), []⟩,
    ⟨(some 109), (some (102, false)), .q (.mv (.t 108)), []⟩,
    ⟨(some 110), (some (109, true)), .q (.mv (.t 10)), []⟩,
    ⟨(some 111), (some (109, true)), .q (.mv (.t 13)), []⟩,
    ⟨(some 112), (some (109, true)), .q (.ia 4 (.t 110) (.t 111)), []⟩,
    ⟨(some 113), (some (109, true)), .q (.fa 2 (.t 112)), []⟩,
    ⟨(some 114), (some (109, true)), .q (.ld none (.t 113)), []⟩,
    ⟨(some 115), (some (109, true)), .q (.mv (.t 7)), []⟩,
    ⟨(some 116), (some (109, true)), .q (.mv (.t 13)), []⟩,
    ⟨(some 117), (some (109, true)), .q (.ia 4 (.t 115) (.t 116)), []⟩,
    ⟨(some 118), (some (109, true)), .q (.fa 2 (.t 117)), []⟩,
    ⟨(some 119), (some (109, true)), .q (.ld none (.t 118)), []⟩,
    ⟨(some 120), (some (109, true)), .q (.mv (.t 1)), []⟩,
    ⟨(some 121), (some (109, true)), .q (.bin .add (.t 119) (.t 120)), []⟩,
    ⟨(some 122), (some (109, true)), .q (.bin .neq (.t 114) (.t 121)), []⟩,
    ⟨(some 123), (some (109, true)), .q (.mv (.t 122)), []⟩,
    ⟨(some 124), (some (123, false)), .q (.mv (.t 10)), []⟩,
    ⟨(some 125), (some (123, false)), .q (.mv (.t 13)), []⟩,
    ⟨(some 126), (some (123, false)), .q (.ia 4 (.t 124) (.t 125)), []⟩,
    ⟨(some 127), (some (123, false)), .q (.fa 3 (.t 126)), []⟩,
    ⟨(some 128), (some (123, false)), .q (.ld none (.t 127)), []⟩,
    ⟨(some 129), (some (123, false)), .q (.mv (.t 7)), []⟩,
    ⟨(some 130), (some (123, false)), .q (.mv (.t 13)), []⟩,
    ⟨(some 131), (some (123, false)), .q (.ia 4 (.t 129) (.t 130)), []⟩,
    ⟨(some 132), (some (123, false)), .q (.fa 3 (.t 131)), []⟩,
    ⟨(some 133), (some (123, false)), .q (.ld none (.t 132)), []⟩,
    ⟨(some 134), (some (123, false)), .q (.mv (.t 1)), []⟩,
    ⟨(some 135), (some (123, false)), .q (.bin .add (.t 133) (.t 134)), []⟩,
    ⟨(some 136), (some (123, false)), .q (.bin .neq (.t 128) (.t 135)), []⟩,
    ⟨(some 137), (some (109, true)), .q (.pick (.t 123) (.v (.bool true)) (.t 136)), []⟩,
    ⟨(some 138), (some (102, false)), .q (.pick (.t 109) (.t 137) (.v (.bool false))), []⟩,
    ⟨(some 139), none, .q (.pick (.t 102) (.v (.bool true)) (.t 138)), []⟩]) Q a σ := id rfl
@[go_sem] theorem c5_32_wp (P : Program) (Q : APost) (a : AFr) (σ : ASt) : c5_32.wp P Q a σ = ACode.wp P (.ops [
    ⟨(some 4), none, .q (.mv (.v (.bool false))), []⟩]) Q a σ := id rfl
@[go_sem] theorem c5_33_wp (P : Program) (Q : APost) (a : AFr) (σ : ASt) : c5_33.wp P Q a σ = ACode.wp P (.seq c5_32 .ret) Q a σ := id rfl
@[go_sem] theorem c5_34_wp (P : Program) (Q : APost) (a : AFr) (σ : ASt) : c5_34.wp P Q a σ = ACode.wp P (.cond (.t 139) c5_33 .skip) Q a σ := id rfl
@[go_sem] theorem c5_35_wp (P : Program) (Q : APost) (a : AFr) (σ : ASt) : c5_35.wp P Q a σ = ACode.wp P (.seq c5_31 c5_34) Q a σ := id rfl
@[go_sem] theorem c5_36_wp (P : Program) (Q : APost) (a : AFr) (σ : ASt) : c5_36.wp P Q a σ = ACode.wp P (.seq c5_30 c5_35) Q a σ := id rfl
@[go_sem] theorem c5_37_wp (P : Program) (Q : APost) (a : AFr) (σ : ASt) : c5_37.wp P Q a σ = ACode.wp P (.block 3 c5_36) Q a σ := id rfl
@[go_sem] theorem c5_38_wp (P : Program) (Q : APost) (a : AFr) (σ : ASt) : c5_38.wp P Q a σ = ACode.wp P (.ops [
    ⟨(some 140), none, .q (.bin .add (.t 75) (.v (.int .i64 1))), []⟩,
    ⟨(some 75), none, .q (.mv (.t 140)), []⟩]) Q a σ := id rfl
@[go_sem] theorem c5_39_wp (P : Program) (Q : APost) (a : AFr) (σ : ASt) : c5_39.wp P Q a σ = ACode.wp P (.seq c5_37 c5_38) Q a σ := id rfl
@[go_sem] theorem c5_40_wp (P : Program) (Q : APost) (a : AFr) (σ : ASt) : c5_40.wp P Q a σ = ACode.wp P (.seq c5_29 c5_39) Q a σ := id rfl
@[go_sem] theorem c5_41_wp (P : Program) (Q : APost) (a : AFr) (σ : ASt) : c5_41.wp P Q a σ = ACode.wp P (.seq c5_28 c5_40) Q a σ := id rfl
@[go_sem] theorem c5_42_wp (P : Program) (Q : APost) (a : AFr) (σ : ASt) : c5_42.wp P Q a σ = ACode.wp P (.loop c5_41) Q a σ := id rfl
@[go_sem] theorem c5_43_wp (P : Program) (Q : APost) (a : AFr) (σ : ASt) : c5_43.wp P Q a σ = ACode.wp P (.block 2 c5_42) Q a σ := id rfl
@[go_sem] theorem c5_44_wp (P : Program) (Q : APost) (a : AFr) (σ : ASt) : c5_44.wp P Q a σ = ACode.wp P (.seq c5_27 c5_43) Q a σ := id rfl
@[go_sem] theorem c5_45_wp (P : Program) (Q : APost) (a : AFr) (σ : ASt) : c5_45.wp P Q a σ = ACode.wp P (.ops [
    ⟨(some 141), none, .e (.call 23 []), []⟩,
    ⟨(some 4), none, .q (.mv (.t 141)), []⟩]) Q a σ := id rfl
@[go_sem] theorem c5_46_wp (P : Program) (Q : APost) (a : AFr) (σ : ASt) : c5_46.wp P Q a σ = ACode.wp P (.seq c5_45 .ret) Q a σ := id rfl
@[go_sem] theorem c5_47_wp (P : Program) (Q : APost) (a : AFr) (σ : ASt) : c5_47.wp P Q a σ = ACode.wp P (.seq c5_44 c5_46) Q a σ := id rfl
@[go_sem] theorem c5_48_wp (P : Program) (Q : APost) (a : AFr) (σ : ASt) : c5_48.wp P Q a σ = ACode.wp P (.seq c5_26 c5_47) Q a σ := id rfl
@[go_sem] theorem c5_49_wp (P : Program) (Q : APost) (a : AFr) (σ : ASt) : c5_49.wp P Q a σ = ACode.wp P (.seq c5_21 c5_48) Q a σ := id rfl
@[go_sem] theorem c5_50_wp (P : Program) (Q : APost) (a : AFr) (σ : ASt) : c5_50.wp P Q a σ = ACode.wp P (.seq c5_20 c5_49) Q a σ := id rfl
@[go_sem] theorem c5_51_wp (P : Program) (Q : APost) (a : AFr) (σ : ASt) : c5_51.wp P Q a σ = ACode.wp P (.seq c5_19 c5_50) Q a σ := id rfl
@[go_sem] theorem c5_52_wp (P : Program) (Q : APost) (a : AFr) (σ : ASt) : c5_52.wp P Q a σ = ACode.wp P (.seq c5_7 c5_51) Q a σ := id rfl
@[go_sem] theorem c5_53_wp (P : Program) (Q : APost) (a : AFr) (σ : ASt) : c5_53.wp P Q a σ = ACode.wp P (.seq c5_6 c5_52) Q a σ := id rfl
@[go_sem] theorem c5_54_wp (P : Program) (Q : APost) (a : AFr) (σ : ASt) : c5_54.wp P Q a σ = ACode.wp P (.seq c5_1 c5_53) Q a σ := id rfl
@[go_sem] theorem c5_55_wp (P : Program) (Q : APost) (a : AFr) (σ : ASt) : c5_55.wp P Q a σ = ACode.wp P (.seq c5_0 c5_54) Q a σ := id rfl
def c5 : AFn := ⟨142, [.t 4], c5_55⟩
set_option maxRecDepth 100000 in
theorem c5_ok : compF Tryd.prog Tryd.f5 = some c5 := by kernel_rfl
theorem a5 {args : List AV} {σ : ASt} {R : AV → ASt → Prop} (hl : args.length ≤ 142) (h : c5_55.wp Tryd.prog (RetQ [.t 4] R) (init args) σ) : ACalls Tryd.prog 5 args σ R := acalls_of Tryd.func5 c5_ok hl h

end Go.A
