/- The functions, compiled: by program (wip/gencode.py). -/
import Derived.Test.YtfjnahkcfdcbeaaDoorBk
import Derived.Test.YtfjnahkcfdcbeaaDoorProg
import Derived.KernelRfl
namespace Go.A
open Go.Proofs

/-! 7: tabular/tabularlaw11.TokenPlaces -/
def c7_0 : ACode := .ops [
    ⟨(some 2), none, .q (.mv (.v (.bool false))), []⟩]
def c7_1 : ACode := .ops [
    ⟨(some 10), none, .q (.mv (.t 0)), []⟩,
    ⟨(some 11), none, .e (.call 15 [(.t 10), (.v (.int .i64 400))]), []⟩,
    ⟨(some 0), none, .q (.mv (.t 11)), []⟩]
def c7_2 : ACode := .ops [
    ⟨(some 13), none, .q (.mv (.t 0)), []⟩,
    ⟨(some 14), none, .e (.call 24 [(.t 13)]), []⟩,
    ⟨(some 12), none, .q (.mv (.t 14)), []⟩,
    ⟨(some 15), none, .q (.ext 0 (.t 12)), []⟩,
    ⟨(some 16), none, .q (.ext 1 (.t 12)), []⟩,
    ⟨(some 17), none, .q (.ext 2 (.t 12)), []⟩,
    ⟨(some 3), none, .q (.mv (.t 15)), []⟩,
    ⟨(some 4), none, .q (.mv (.t 16)), []⟩,
    ⟨(some 5), none, .q (.mv (.t 17)), []⟩]
def c7_3 : ACode := .ops [
    ⟨(some 18), none, .q (.mv (.t 5)), []⟩,
    ⟨(some 19), none, .q (.bin .neq (.t 18) (.v (.int .i64 0))), []⟩]
def c7_4 : ACode := .ops [
    ⟨(some 20), none, .e (.call 23 []), []⟩,
    ⟨(some 21), none, .q (.mv (.t 20)), []⟩,
    ⟨(some 22), (some (21, true)), .q (.mv (.t 3)), []⟩,
    ⟨(some 23), (some (21, true)), .q (.len (.t 22)), []⟩,
    ⟨(some 24), (some (21, true)), .q (.bin .eql (.t 23) (.v (.int .i64 0))), []⟩,
    ⟨(some 25), none, .q (.pick (.t 21) (.t 24) (.v (.bool false))), []⟩,
    ⟨(some 26), none, .q (.mv (.t 25)), []⟩,
    ⟨(some 27), (some (26, true)), .q (.mv (.t 4)), []⟩,
    ⟨(some 28), (some (26, true)), .q (.bin .geq (.t 27) (.v (.int .i64 0))), []⟩,
    ⟨(some 29), none, .q (.pick (.t 26) (.t 28) (.v (.bool false))), []⟩,
    ⟨(some 30), none, .q (.mv (.t 29)), []⟩,
    ⟨(some 31), (some (30, true)), .q (.mv (.t 4)), []⟩,
    ⟨(some 32), (some (30, true)), .q (.mv (.t 0)), []⟩,
    ⟨(some 33), (some (30, true)), .q (.lenS (.t 32)), []⟩,
    ⟨(some 34), (some (30, true)), .q (.bin .lss (.t 31) (.t 33)), []⟩,
    ⟨(some 35), none, .q (.pick (.t 30) (.t 34) (.v (.bool false))), []⟩,
    ⟨(some 2), none, .q (.mv (.t 35)), []⟩]
def c7_5 : ACode := .seq c7_4 .ret
def c7_6 : ACode := .cond (.t 19) c7_5 .skip
def c7_7 : ACode := .seq c7_3 c7_6
def c7_8 : ACode := .ops [
    ⟨(some 36), none, .q (.mv (.t 3)), []⟩,
    ⟨(some 37), none, .q (.len (.t 36)), []⟩,
    ⟨(some 38), none, .q (.mv (.v (.int .i64 0))), []⟩]
def c7_9 : ACode := .ops [
    ⟨(some 39), none, .q (.bin .lss (.t 38) (.t 37)), []⟩]
def c7_10 : ACode := .cond (.t 39) .skip (.exit 0)
def c7_11 : ACode := .ops [
    ⟨(some 40), none, .q (.mv (.t 38)), []⟩,
    ⟨(some 41), none, .q (.ia 4 (.t 36) (.t 38)), []⟩,
    ⟨(some 42), none, .q (.ld (some 4) (.t 41)), []⟩,
    ⟨(some 7), none, .e (.alloc [(.int .i64 0), (.str []), (.int .i64 0), (.int .i64 0)]), []⟩,
    ⟨(some 6), none, .q (.mv (.t 40)), []⟩,
    ⟨none, none, .e (.store 4 (.t 7) (.t 42)), []⟩]
def c7_12 : ACode := .ops [
    ⟨(some 43), none, .q (.fa 3 (.t 7)), []⟩,
    ⟨(some 44), none, .q (.ld none (.t 43)), []⟩,
    ⟨(some 45), none, .q (.fa 2 (.t 7)), []⟩,
    ⟨(some 46), none, .q (.ld none (.t 45)), []⟩,
    ⟨(some 47), none, .q (.bin .gtr (.t 44) (.t 46)), []⟩,
    ⟨(some 48), none, .q (.mv (.t 47)), []⟩,
    ⟨(some 49), (some (48, false)), .q (.mv (.t 6)), []⟩,
    ⟨(some 50), (some (48, false)), .q (.bin .gtr (.t 49) (.v (.int .i64 0))), []⟩,
    ⟨(some 51), (some (48, false)), .q (.mv (.t 50)), []⟩,
    ⟨(some 52), (some (51, true)), .q (.fa 2 (.t 7)), []⟩,
    ⟨(some 53), (some (51, true)), .q (.ld none (.t 52)), []⟩,
    ⟨(some 54), (some (51, true)), .q (.mv (.t 3)), []⟩,
    ⟨(some 55), (some (51, true)), .q (.mv (.t 6)), []⟩,
    ⟨(some 56), (some (51, true)), .q (.bin .sub (.t 55) (.v (.int .i64 1))), []⟩,
    ⟨(some 57), (some (51, true)), .q (.ia 4 (.t 54) (.t 56)), []⟩,
    ⟨(some 58), (some (51, true)), .q (.fa 2 (.t 57)), []⟩,
    ⟨(some 59), (some (51, true)), .q (.ld none (.t 58)), []⟩,
    ⟨(some 60), (some (51, true)), .q (.bin .leq (.t 53) (.t 59)), []⟩,
    ⟨(some 61), (some (51, true)), .q (.mv (.t 60)), []⟩,
    ⟨(some 62), (some (61, true)), .q (.fa 0 (.t 7)), []⟩,
    ⟨(some 63), (some (61, true)), .q (.ld none (.t 62)), []⟩,
    ⟨(some 64), (some (61, true)), .q (.bin .neq (.t 63) (.v (.int .i64 0))), []⟩,
    ⟨(some 65), (some (51, true)), .q (.pick (.t 61) (.t 64) (.v (.bool false))), []⟩,
    ⟨(some 66), (some (51, true)), .q (.mv (.t 65)), []⟩,
    ⟨(some 67), (some (66, false)), .q (.fa 3 (.t 7)), []⟩,
    ⟨(some 68), (some (66, false)), .q (.ld none (.t 67)), []⟩,
    ⟨(some 69), (some (66, false)), .q (.mv (.t 3)), []⟩,
    ⟨(some 70), (some (66, false)), .q (.mv (.t 6)), []⟩,
    ⟨(some 71), (some (66, false)), .q (.bin .sub (.t 70) (.v (.int .i64 1))), []⟩,
    ⟨(some 72), (some (66, false)), .q (.ia 4 (.t 69) (.t 71)), []⟩,
    ⟨(some 73), (some (66, false)), .q (.fa 3 (.t 72)), []⟩,
    ⟨(some 74), (some (66, false)), .q (.ld none (.t 73)), []⟩,
    ⟨(some 75), (some (66, false)), .q (.bin .leq (.t 68) (.t 74)), []⟩,
    ⟨(some 76), (some (66, false)), .q (.mv (.t 75)), []⟩,
    ⟨(some 77), (some (76, true)), .q (.fa 0 (.t 7)), []⟩,
    ⟨(some 78), (some (76, true)), .q (.ld none (.t 77)), []⟩,
    ⟨(some 79), (some (76, true)), .q (.bin .neq (.t 78) (.v (.int .i64 0))), []⟩,
    ⟨(some 80), (some (66, false)), .q (.pick (.t 76) (.t 79) (.v (.bool false))), []⟩,
    ⟨(some 81), (some (51, true)), .q (.pick (.t 66) (.v (.bool true)) (.t 80)), []⟩,
    ⟨(some 82), (some (48, false)), .q (.pick (.t 51) (.t 81) (.v (.bool false))), []⟩,
    ⟨(some 83), none, .q (.pick (.t 48) (.v (.bool true)) (.t 82)), []⟩]
def c7_13 : ACode := .ops [
    ⟨(some 2), none, .q (.mv (.v (.bool false))), []⟩]
def c7_14 : ACode := .seq c7_13 .ret
def c7_15 : ACode := .cond (.t 83) c7_14 .skip
def c7_16 : ACode := .seq c7_12 c7_15
def c7_17 : ACode := .seq c7_11 c7_16
def c7_18 : ACode := .block 1 c7_17
def c7_19 : ACode := .ops [
    ⟨(some 84), none, .q (.bin .add (.t 38) (.v (.int .i64 1))), []⟩,
    ⟨(some 38), none, .q (.mv (.t 84)), []⟩]
def c7_20 : ACode := .seq c7_18 c7_19
def c7_21 : ACode := .seq c7_10 c7_20
def c7_22 : ACode := .seq c7_9 c7_21
def c7_23 : ACode := .loop c7_22
def c7_24 : ACode := .block 0 c7_23
def c7_25 : ACode := .seq c7_8 c7_24
def c7_26 : ACode := .ops [
    ⟨(some 86), none, .q (.mv (.t 0)), []⟩,
    ⟨(some 87), none, .e (.call 25 [(.t 86)]), []⟩,
    ⟨(some 85), none, .q (.mv (.t 87)), []⟩,
    ⟨(some 88), none, .q (.ext 0 (.t 85)), []⟩,
    ⟨(some 89), none, .q (.ext 1 (.t 85)), []⟩,
    ⟨(some 8), none, .q (.mv (.t 88)), []⟩,
    ⟨(some 9), none, .q (.mv (.t 89)), []⟩]
def c7_27 : ACode := .ops [
    ⟨(some 90), none, .e (.call 23 []), []⟩,
    ⟨(some 91), none, .q (.mv (.t 90)), []⟩,
    ⟨(some 92), (some (91, true)), .q (.mv (.t 9)), []⟩,
    ⟨(some 93), none, .q (.pick (.t 91) (.t 92) (.v (.bool false))), []⟩,
    ⟨(some 94), none, .q (.mv (.t 93)), []⟩,
    ⟨(some 95), (some (94, true)), .q (.mv (.t 3)), []⟩,
    ⟨(some 96), (some (94, true)), .q (.mv (.t 3)), []⟩,
    ⟨(some 97), (some (94, true)), .q (.len (.t 96)), []⟩,
    ⟨(some 98), (some (94, true)), .q (.bin .sub (.t 97) (.v (.int .i64 1))), []⟩,
    ⟨(some 99), (some (94, true)), .q (.ia 4 (.t 95) (.t 98)), []⟩,
    ⟨(some 100), (some (94, true)), .q (.fa 2 (.t 99)), []⟩,
    ⟨(some 101), (some (94, true)), .q (.ld none (.t 100)), []⟩,
    ⟨(some 102), (some (94, true)), .q (.mv (.t 0)), []⟩,
    ⟨(some 103), (some (94, true)), .q (.lenS (.t 102)), []⟩,
    ⟨(some 104), (some (94, true)), .q (.bin .eql (.t 101) (.t 103)), []⟩,
    ⟨(some 105), none, .q (.pick (.t 94) (.t 104) (.v (.bool false))), []⟩,
    ⟨(some 106), none, .q (.mv (.t 105)), []⟩,
    ⟨(some 107), (some (106, true)), .q (.mv (.t 3)), []⟩,
    ⟨(some 108), (some (106, true)), .q (.mv (.t 3)), []⟩,
    ⟨(some 109), (some (106, true)), .q (.len (.t 108)), []⟩,
    ⟨(some 110), (some (106, true)), .q (.bin .sub (.t 109) (.v (.int .i64 1))), []⟩,
    ⟨(some 111), (some (106, true)), .q (.ia 4 (.t 107) (.t 110)), []⟩,
    ⟨(some 112), (some (106, true)), .q (.fa 3 (.t 111)), []⟩,
    ⟨(some 113), (some (106, true)), .q (.ld none (.t 112)), []⟩,
    ⟨(some 114), (some (106, true)), .q (.mv (.t 8)), []⟩,
    ⟨(some 115), (some (106, true)), .q (.bin .eql (.t 113) (.t 114)), []⟩,
    ⟨(some 116), none, .q (.pick (.t 106) (.t 115) (.v (.bool false))), []⟩,
    ⟨(some 2), none, .q (.mv (.t 116)), []⟩]
def c7_28 : ACode := .seq c7_27 .ret
def c7_29 : ACode := .seq c7_26 c7_28
def c7_30 : ACode := .seq c7_25 c7_29
def c7_31 : ACode := .seq c7_7 c7_30
def c7_32 : ACode := .seq c7_2 c7_31
def c7_33 : ACode := .seq c7_1 c7_32
def c7_34 : ACode := .seq c7_0 c7_33
@[go_sem] theorem c7_0_wp (P : Program) (Q : APost) (a : AFr) (σ : ASt) : c7_0.wp P Q a σ = ACode.wp P (.ops [
    ⟨(some 2), none, .q (.mv (.v (.bool false))), []⟩]) Q a σ := id rfl
@[go_sem] theorem c7_1_wp (P : Program) (Q : APost) (a : AFr) (σ : ASt) : c7_1.wp P Q a σ = ACode.wp P (.ops [
    ⟨(some 10), none, .q (.mv (.t 0)), []⟩,
    ⟨(some 11), none, .e (.call 15 [(.t 10), (.v (.int .i64 400))]), []⟩,
    ⟨(some 0), none, .q (.mv (.t 11)), []⟩]) Q a σ := id rfl
@[go_sem] theorem c7_2_wp (P : Program) (Q : APost) (a : AFr) (σ : ASt) : c7_2.wp P Q a σ = ACode.wp P (.ops [
    ⟨(some 13), none, .q (.mv (.t 0)), []⟩,
    ⟨(some 14), none, .e (.call 24 [(.t 13)]), []⟩,
    ⟨(some 12), none, .q (.mv (.t 14)), []⟩,
    ⟨(some 15), none, .q (.ext 0 (.t 12)), []⟩,
    ⟨(some 16), none, .q (.ext 1 (.t 12)), []⟩,
    ⟨(some 17), none, .q (.ext 2 (.t 12)), []⟩,
    ⟨(some 3), none, .q (.mv (.t 15)), []⟩,
    ⟨(some 4), none, .q (.mv (.t 16)), []⟩,
    ⟨(some 5), none, .q (.mv (.t 17)), []⟩]) Q a σ := id rfl
@[go_sem] theorem c7_3_wp (P : Program) (Q : APost) (a : AFr) (σ : ASt) : c7_3.wp P Q a σ = ACode.wp P (.ops [
    ⟨(some 18), none, .q (.mv (.t 5)), []⟩,
    ⟨(some 19), none, .q (.bin .neq (.t 18) (.v (.int .i64 0))), []⟩]) Q a σ := id rfl
@[go_sem] theorem c7_4_wp (P : Program) (Q : APost) (a : AFr) (σ : ASt) : c7_4.wp P Q a σ = ACode.wp P (.ops [
    ⟨(some 20), none, .e (.call 23 []), []⟩,
    ⟨(some 21), none, .q (.mv (.t 20)), []⟩,
    ⟨(some 22), (some (21, true)), .q (.mv (.t 3)), []⟩,
    ⟨(some 23), (some (21, true)), .q (.len (.t 22)), []⟩,
    ⟨(some 24), (some (21, true)), .q (.bin .eql (.t 23) (.v (.int .i64 0))), []⟩,
    ⟨(some 25), none, .q (.pick (.t 21) (.t 24) (.v (.bool false))), []⟩,
    ⟨(some 26), none, .q (.mv (.t 25)), []⟩,
    ⟨(some 27), (some (26, true)), .q (.mv (.t 4)), []⟩,
    ⟨(some 28), (some (26, true)), .q (.bin .geq (.t 27) (.v (.int .i64 0))), []⟩,
    ⟨(some 29), none, .q (.pick (.t 26) (.t 28) (.v (.bool false))), []⟩,
    ⟨(some 30), none, .q (.mv (.t 29)), []⟩,
    ⟨(some 31), (some (30, true)), .q (.mv (.t 4)), []⟩,
    ⟨(some 32), (some (30, true)), .q (.mv (.t 0)), []⟩,
    ⟨(some 33), (some (30, true)), .q (.lenS (.t 32)), []⟩,
    ⟨(some 34), (some (30, true)), .q (.bin .lss (.t 31) (.t 33)), []⟩,
    ⟨(some 35), none, .q (.pick (.t 30) (.t 34) (.v (.bool false))), []⟩,
    ⟨(some 2), none, .q (.mv (.t 35)), []⟩]) Q a σ := id rfl
@[go_sem] theorem c7_5_wp (P : Program) (Q : APost) (a : AFr) (σ : ASt) : c7_5.wp P Q a σ = ACode.wp P (.seq c7_4 .ret) Q a σ := id rfl
@[go_sem] theorem c7_6_wp (P : Program) (Q : APost) (a : AFr) (σ : ASt) : c7_6.wp P Q a σ = ACode.wp P (.cond (.t 19) c7_5 .skip) Q a σ := id rfl
@[go_sem] theorem c7_7_wp (P : Program) (Q : APost) (a : AFr) (σ : ASt) : c7_7.wp P Q a σ = ACode.wp P (.seq c7_3 c7_6) Q a σ := id rfl
@[go_sem] theorem c7_8_wp (P : Program) (Q : APost) (a : AFr) (σ : ASt) : c7_8.wp P Q a σ = ACode.wp P (.ops [
    ⟨(some 36), none, .q (.mv (.t 3)), []⟩,
    ⟨(some 37), none, .q (.len (.t 36)), []⟩,
    ⟨(some 38), none, .q (.mv (.v (.int .i64 0))), []⟩]) Q a σ := id rfl
@[go_sem] theorem c7_9_wp (P : Program) (Q : APost) (a : AFr) (σ : ASt) : c7_9.wp P Q a σ = ACode.wp P (.ops [
    ⟨(some 39), none, .q (.bin .lss (.t 38) (.t 37)), []⟩]) Q a σ := id rfl
@[go_sem] theorem c7_10_wp (P : Program) (Q : APost) (a : AFr) (σ : ASt) : c7_10.wp P Q a σ = ACode.wp P (.cond (.t 39) .skip (.exit 0)) Q a σ := id rfl
@[go_sem] theorem c7_11_wp (P : Program) (Q : APost) (a : AFr) (σ : ASt) : c7_11.wp P Q a σ = ACode.wp P (.ops [
    ⟨(some 40), none, .q (.mv (.t 38)), []⟩,
    ⟨(some 41), none, .q (.ia 4 (.t 36) (.t 38)), []⟩,
    ⟨(some 42), none, .q (.ld (some 4) (.t 41)), []⟩,
    ⟨(some 7), none, .e (.alloc [(.int .i64 0), (.str []), (.int .i64 0), (.int .i64 0)]), []⟩,
    ⟨(some 6), none, .q (.mv (.t 40)), []⟩,
    ⟨none, none, .e (.store 4 (.t 7) (.t 42)), []⟩]) Q a σ := id rfl
@[go_sem] theorem c7_12_wp (P : Program) (Q : APost) (a : AFr) (σ : ASt) : c7_12.wp P Q a σ = ACode.wp P (.ops [
    ⟨(some 43), none, .q (.fa 3 (.t 7)), []⟩,
    ⟨(some 44), none, .q (.ld none (.t 43)), []⟩,
    ⟨(some 45), none, .q (.fa 2 (.t 7)), []⟩,
    ⟨(some 46), none, .q (.ld none (.t 45)), []⟩,
    ⟨(some 47), none, .q (.bin .gtr (.t 44) (.t 46)), []⟩,
    ⟨(some 48), none, .q (.mv (.t 47)), []⟩,
    ⟨(some 49), (some (48, false)), .q (.mv (.t 6)), []⟩,
    ⟨(some 50), (some (48, false)), .q (.bin .gtr (.t 49) (.v (.int .i64 0))), []⟩,
    ⟨(some 51), (some (48, false)), .q (.mv (.t 50)), []⟩,
    ⟨(some 52), (some (51, true)), .q (.fa 2 (.t 7)), []⟩,
    ⟨(some 53), (some (51, true)), .q (.ld none (.t 52)), []⟩,
    ⟨(some 54), (some (51, true)), .q (.mv (.t 3)), []⟩,
    ⟨(some 55), (some (51, true)), .q (.mv (.t 6)), []⟩,
    ⟨(some 56), (some (51, true)), .q (.bin .sub (.t 55) (.v (.int .i64 1))), []⟩,
    ⟨(some 57), (some (51, true)), .q (.ia 4 (.t 54) (.t 56)), []⟩,
    ⟨(some 58), (some (51, true)), .q (.fa 2 (.t 57)), []⟩,
    ⟨(some 59), (some (51, true)), .q (.ld none (.t 58)), []⟩,
    ⟨(some 60), (some (51, true)), .q (.bin .leq (.t 53) (.t 59)), []⟩,
    ⟨(some 61), (some (51, true)), .q (.mv (.t 60)), []⟩,
    ⟨(some 62), (some (61, true)), .q (.fa 0 (.t 7)), []⟩,
    ⟨(some 63), (some (61, true)), .q (.ld none (.t 62)), []⟩,
    ⟨(some 64), (some (61, true)), .q (.bin .neq (.t 63) (.v (.int .i64 0))), []⟩,
    ⟨(some 65), (some (51, true)), .q (.pick (.t 61) (.t 64) (.v (.bool false))), []⟩,
    ⟨(some 66), (some (51, true)), .q (.mv (.t 65)), []⟩,
    ⟨(some 67), (some (66, false)), .q (.fa 3 (.t 7)), []⟩,
    ⟨(some 68), (some (66, false)), .q (.ld none (.t 67)), []⟩,
    ⟨(some 69), (some (66, false)), .q (.mv (.t 3)), []⟩,
    ⟨(some 70), (some (66, false)), .q (.mv (.t 6)), []⟩,
    ⟨(some 71), (some (66, false)), .q (.bin .sub (.t 70) (.v (.int .i64 1))), []⟩,
    ⟨(some 72), (some (66, false)), .q (.ia 4 (.t 69) (.t 71)), []⟩,
    ⟨(some 73), (some (66, false)), .q (.fa 3 (.t 72)), []⟩,
    ⟨(some 74), (some (66, false)), .q (.ld none (.t 73)), []⟩,
    ⟨(some 75), (some (66, false)), .q (.bin .leq (.t 68) (.t 74)), []⟩,
    ⟨(some 76), (some (66, false)), .q (.mv (.t 75)), []⟩,
    ⟨(some 77), (some (76, true)), .q (.fa 0 (.t 7)), []⟩,
    ⟨(some 78), (some (76, true)), .q (.ld none (.t 77)), []⟩,
    ⟨(some 79), (some (76, true)), .q (.bin .neq (.t 78) (.v (.int .i64 0))), []⟩,
    ⟨(some 80), (some (66, false)), .q (.pick (.t 76) (.t 79) (.v (.bool false))), []⟩,
    ⟨(some 81), (some (51, true)), .q (.pick (.t 66) (.v (.bool true)) (.t 80)), []⟩,
    ⟨(some 82), (some (48, false)), .q (.pick (.t 51) (.t 81) (.v (.bool false))), []⟩,
    ⟨(some 83), none, .q (.pick (.t 48) (.v (.bool true)) (.t 82)), []⟩]) Q a σ := id rfl
@[go_sem] theorem c7_13_wp (P : Program) (Q : APost) (a : AFr) (σ : ASt) : c7_13.wp P Q a σ = ACode.wp P (.ops [
    ⟨(some 2), none, .q (.mv (.v (.bool false))), []⟩]) Q a σ := id rfl
@[go_sem] theorem c7_14_wp (P : Program) (Q : APost) (a : AFr) (σ : ASt) : c7_14.wp P Q a σ = ACode.wp P (.seq c7_13 .ret) Q a σ := id rfl
@[go_sem] theorem c7_15_wp (P : Program) (Q : APost) (a : AFr) (σ : ASt) : c7_15.wp P Q a σ = ACode.wp P (.cond (.t 83) c7_14 .skip) Q a σ := id rfl
@[go_sem] theorem c7_16_wp (P : Program) (Q : APost) (a : AFr) (σ : ASt) : c7_16.wp P Q a σ = ACode.wp P (.seq c7_12 c7_15) Q a σ := id rfl
@[go_sem] theorem c7_17_wp (P : Program) (Q : APost) (a : AFr) (σ : ASt) : c7_17.wp P Q a σ = ACode.wp P (.seq c7_11 c7_16) Q a σ := id rfl
@[go_sem] theorem c7_18_wp (P : Program) (Q : APost) (a : AFr) (σ : ASt) : c7_18.wp P Q a σ = ACode.wp P (.block 1 c7_17) Q a σ := id rfl
@[go_sem] theorem c7_19_wp (P : Program) (Q : APost) (a : AFr) (σ : ASt) : c7_19.wp P Q a σ = ACode.wp P (.ops [
    ⟨(some 84), none, .q (.bin .add (.t 38) (.v (.int .i64 1))), []⟩,
    ⟨(some 38), none, .q (.mv (.t 84)), []⟩]) Q a σ := id rfl
@[go_sem] theorem c7_20_wp (P : Program) (Q : APost) (a : AFr) (σ : ASt) : c7_20.wp P Q a σ = ACode.wp P (.seq c7_18 c7_19) Q a σ := id rfl
@[go_sem] theorem c7_21_wp (P : Program) (Q : APost) (a : AFr) (σ : ASt) : c7_21.wp P Q a σ = ACode.wp P (.seq c7_10 c7_20) Q a σ := id rfl
@[go_sem] theorem c7_22_wp (P : Program) (Q : APost) (a : AFr) (σ : ASt) : c7_22.wp P Q a σ = ACode.wp P (.seq c7_9 c7_21) Q a σ := id rfl
@[go_sem] theorem c7_23_wp (P : Program) (Q : APost) (a : AFr) (σ : ASt) : c7_23.wp P Q a σ = ACode.wp P (.loop c7_22) Q a σ := id rfl
@[go_sem] theorem c7_24_wp (P : Program) (Q : APost) (a : AFr) (σ : ASt) : c7_24.wp P Q a σ = ACode.wp P (.block 0 c7_23) Q a σ := id rfl
@[go_sem] theorem c7_25_wp (P : Program) (Q : APost) (a : AFr) (σ : ASt) : c7_25.wp P Q a σ = ACode.wp P (.seq c7_8 c7_24) Q a σ := id rfl
@[go_sem] theorem c7_26_wp (P : Program) (Q : APost) (a : AFr) (σ : ASt) : c7_26.wp P Q a σ = ACode.wp P (.ops [
    ⟨(some 86), none, .q (.mv (.t 0)), []⟩,
    ⟨(some 87), none, .e (.call 25 [(.t 86)]), []⟩,
    ⟨(some 85), none, .q (.mv (.t 87)), []⟩,
    ⟨(some 88), none, .q (.ext 0 (.t 85)), []⟩,
    ⟨(some 89), none, .q (.ext 1 (.t 85)), []⟩,
    ⟨(some 8), none, .q (.mv (.t 88)), []⟩,
    ⟨(some 9), none, .q (.mv (.t 89)), []⟩]) Q a σ := id rfl
@[go_sem] theorem c7_27_wp (P : Program) (Q : APost) (a : AFr) (σ : ASt) : c7_27.wp P Q a σ = ACode.wp P (.ops [
    ⟨(some 90), none, .e (.call 23 []), []⟩,
    ⟨(some 91), none, .q (.mv (.t 90)), []⟩,
    ⟨(some 92), (some (91, true)), .q (.mv (.t 9)), []⟩,
    ⟨(some 93), none, .q (.pick (.t 91) (.t 92) (.v (.bool false))), []⟩,
    ⟨(some 94), none, .q (.mv (.t 93)), []⟩,
    ⟨(some 95), (some (94, true)), .q (.mv (.t 3)), []⟩,
    ⟨(some 96), (some (94, true)), .q (.mv (.t 3)), []⟩,
    ⟨(some 97), (some (94, true)), .q (.len (.t 96)), []⟩,
    ⟨(some 98), (some (94, true)), .q (.bin .sub (.t 97) (.v (.int .i64 1))), []⟩,
    ⟨(some 99), (some (94, true)), .q (.ia 4 (.t 95) (.t 98)), []⟩,
    ⟨(some 100), (some (94, true)), .q (.fa 2 (.t 99)), []⟩,
    ⟨(some 101), (some (94, true)), .q (.ld none (.t 100)), []⟩,
    ⟨(some 102), (some (94, true)), .q (.mv (.t 0)), []⟩,
    ⟨(some 103), (some (94, true)), .q (.lenS (.t 102)), []⟩,
    ⟨(some 104), (some (94, true)), .q (.bin .eql (.t 101) (.t 103)), []⟩,
    ⟨(some 105), none, .q (.pick (.t 94) (.t 104) (.v (.bool false))), []⟩,
    ⟨(some 106), none, .q (.mv (.t 105)), []⟩,
    ⟨(some 107), (some (106, true)), .q (.mv (.t 3)), []⟩,
    ⟨(some 108), (some (106, true)), .q (.mv (.t 3)), []⟩,
    ⟨(some 109), (some (106, true)), .q (.len (.t 108)), []⟩,
    ⟨(some 110), (some (106, true)), .q (.bin .sub (.t 109) (.v (.int .i64 1))), []⟩,
    ⟨(some 111), (some (106, true)), .q (.ia 4 (.t 107) (.t 110)), []⟩,
    ⟨(some 112), (some (106, true)), .q (.fa 3 (.t 111)), []⟩,
    ⟨(some 113), (some (106, true)), .q (.ld none (.t 112)), []⟩,
    ⟨(some 114), (some (106, true)), .q (.mv (.t 8)), []⟩,
    ⟨(some 115), (some (106, true)), .q (.bin .eql (.t 113) (.t 114)), []⟩,
    ⟨(some 116), none, .q (.pick (.t 106) (.t 115) (.v (.bool false))), []⟩,
    ⟨(some 2), none, .q (.mv (.t 116)), []⟩]) Q a σ := id rfl
@[go_sem] theorem c7_28_wp (P : Program) (Q : APost) (a : AFr) (σ : ASt) : c7_28.wp P Q a σ = ACode.wp P (.seq c7_27 .ret) Q a σ := id rfl
@[go_sem] theorem c7_29_wp (P : Program) (Q : APost) (a : AFr) (σ : ASt) : c7_29.wp P Q a σ = ACode.wp P (.seq c7_26 c7_28) Q a σ := id rfl
@[go_sem] theorem c7_30_wp (P : Program) (Q : APost) (a : AFr) (σ : ASt) : c7_30.wp P Q a σ = ACode.wp P (.seq c7_25 c7_29) Q a σ := id rfl
@[go_sem] theorem c7_31_wp (P : Program) (Q : APost) (a : AFr) (σ : ASt) : c7_31.wp P Q a σ = ACode.wp P (.seq c7_7 c7_30) Q a σ := id rfl
@[go_sem] theorem c7_32_wp (P : Program) (Q : APost) (a : AFr) (σ : ASt) : c7_32.wp P Q a σ = ACode.wp P (.seq c7_2 c7_31) Q a σ := id rfl
@[go_sem] theorem c7_33_wp (P : Program) (Q : APost) (a : AFr) (σ : ASt) : c7_33.wp P Q a σ = ACode.wp P (.seq c7_1 c7_32) Q a σ := id rfl
@[go_sem] theorem c7_34_wp (P : Program) (Q : APost) (a : AFr) (σ : ASt) : c7_34.wp P Q a σ = ACode.wp P (.seq c7_0 c7_33) Q a σ := id rfl
def c7 : AFn := ⟨117, [.t 2], c7_34⟩
set_option maxRecDepth 100000 in
theorem c7_ok : compF Tryd.prog Tryd.f7 = some c7 := by kernel_rfl
theorem a7 {args : List AV} {σ : ASt} {R : AV → ASt → Prop} (hl : args.length ≤ 117) (h : c7_34.wp Tryd.prog (RetQ [.t 2] R) (init args) σ) : ACalls Tryd.prog 7 args σ R := acalls_of Tryd.func7 c7_ok hl h

end Go.A
