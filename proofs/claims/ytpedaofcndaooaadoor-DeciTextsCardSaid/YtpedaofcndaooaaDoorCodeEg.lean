/- The functions, compiled: by program (wip/gencode.py). -/
import Derived.Test.YtpedaofcndaooaaDoorBk
import Derived.Test.YtpedaofcndaooaaDoorProg
import Derived.KernelRfl
namespace Go.A
open Go.Proofs

/-! 7: tabular/tabularlaw01.DeciTexts -/
def c7_0 : ACode := .ops [
    ⟨(some 8), none, .q (.mv (.v (.bool false))), []⟩]
def c7_1 : ACode := .ops [
    ⟨(some 20), none, .q (.mv (.t 1)), []⟩,
    ⟨(some 21), none, .e (.call 19 [(.t 20), (.v (.int .i64 60))]), []⟩,
    ⟨(some 1), none, .q (.mv (.t 21)), []⟩]
def c7_2 : ACode := .ops [
    ⟨(some 23), none, .q (.mv (.t 1)), []⟩,
    ⟨(some 24), none, .e (.call 11 [(.t 23)]), []⟩,
    ⟨(some 22), none, .q (.mv (.t 24)), []⟩,
    ⟨(some 25), none, .q (.ext 0 (.t 22)), []⟩,
    ⟨(some 26), none, .q (.ext 1 (.t 22)), []⟩,
    ⟨(some 9), none, .q (.mv (.t 25)), []⟩,
    ⟨(some 10), none, .q (.mv (.t 26)), []⟩]
def c7_3 : ACode := .ops [
    ⟨(some 28), none, .q (.mv (.t 1)), []⟩,
    ⟨(some 29), none, .e (.call 20 [(.t 28)]), []⟩,
    ⟨(some 27), none, .q (.mv (.t 29)), []⟩,
    ⟨(some 30), none, .q (.ext 0 (.t 27)), []⟩,
    ⟨(some 31), none, .q (.ext 1 (.t 27)), []⟩,
    ⟨(some 11), none, .q (.mv (.t 30)), []⟩,
    ⟨(some 12), none, .q (.mv (.t 31)), []⟩]
def c7_4 : ACode := .ops [
    ⟨(some 33), none, .q (.mv (.t 3)), []⟩,
    ⟨(some 34), none, .e (.call 21 [(.t 33)]), []⟩,
    ⟨(some 32), none, .q (.mv (.t 34)), []⟩,
    ⟨(some 35), none, .q (.ext 0 (.t 32)), []⟩,
    ⟨(some 36), none, .q (.ext 1 (.t 32)), []⟩,
    ⟨(some 13), none, .q (.mv (.t 35)), []⟩,
    ⟨(some 14), none, .q (.mv (.t 36)), []⟩]
def c7_5 : ACode := .ops [
    ⟨(some 37), none, .q (.mv (.t 3)), []⟩,
    ⟨(some 38), none, .q (.bin .geq (.t 37) (.v (.int .i64 (-99999999999999)))), []⟩,
    ⟨(some 39), none, .q (.mv (.t 38)), []⟩,
    ⟨(some 40), (some (39, true)), .q (.mv (.t 3)), []⟩,
    ⟨(some 41), (some (39, true)), .q (.bin .leq (.t 40) (.v (.int .i64 99999999999999))), []⟩,
    ⟨(some 42), none, .q (.pick (.t 39) (.t 41) (.v (.bool false))), []⟩,
    ⟨(some 15), none, .q (.mv (.t 42)), []⟩]
def c7_6 : ACode := .ops [
    ⟨(some 43), none, .e (.call 10 []), []⟩,
    ⟨(some 44), none, .q (.un .not (.t 43)), []⟩,
    ⟨(some 45), none, .q (.mv (.t 44)), []⟩,
    ⟨(some 46), (some (45, false)), .q (.mv (.t 9)), []⟩,
    ⟨(some 47), (some (45, false)), .q (.mv (.t 10)), []⟩,
    ⟨(some 48), (some (45, false)), .q (.mv (.t 11)), []⟩,
    ⟨(some 49), (some (45, false)), .q (.mv (.t 12)), []⟩,
    ⟨(some 50), (some (45, false)), .e (.call 22 [(.t 46), (.t 47), (.t 48), (.t 49)]), []⟩,
    ⟨(some 51), (some (45, false)), .q (.un .not (.t 50)), []⟩,
    ⟨(some 52), none, .q (.pick (.t 45) (.v (.bool true)) (.t 51)), []⟩,
    ⟨(some 53), none, .q (.mv (.t 52)), []⟩,
    ⟨(some 54), (some (53, false)), .q (.mv (.t 14)), []⟩,
    ⟨(some 55), (some (53, false)), .q (.mv (.t 15)), []⟩,
    ⟨(some 56), (some (53, false)), .q (.eq .b true (.t 54) (.t 55)), []⟩,
    ⟨(some 57), none, .q (.pick (.t 53) (.v (.bool true)) (.t 56)), []⟩,
    ⟨(some 58), none, .q (.mv (.t 57)), []⟩,
    ⟨(some 59), (some (58, false)), .q (.mv (.t 15)), []⟩,
    ⟨(some 60), (some (58, false)), .q (.mv (.t 59)), []⟩,
    ⟨(some 61), (some (60, true)), .q (.mv (.t 13)), []⟩,
    ⟨(some 62), (some (60, true)), .q (.mv (.t 3)), []⟩,
    ⟨(some 63), (some (60, true)), .q (.bin .mul (.t 62) (.v (.int .i64 10000))), []⟩,
    ⟨(some 64), (some (60, true)), .q (.bin .neq (.t 61) (.t 63)), []⟩,
    ⟨(some 65), (some (58, false)), .q (.pick (.t 60) (.t 64) (.v (.bool false))), []⟩,
    ⟨(some 66), none, .q (.pick (.t 58) (.v (.bool true)) (.t 65)), []⟩,
    ⟨(some 67), none, .q (.mv (.t 66)), []⟩,
    ⟨(some 68), (some (67, false)), .q (.mv (.t 15)), []⟩,
    ⟨(some 69), (some (67, false)), .q (.un .not (.t 68)), []⟩,
    ⟨(some 70), (some (67, false)), .q (.mv (.t 69)), []⟩,
    ⟨(some 71), (some (70, true)), .q (.mv (.t 13)), []⟩,
    ⟨(some 72), (some (70, true)), .q (.bin .neq (.t 71) (.v (.int .i64 0))), []⟩,
    ⟨(some 73), (some (67, false)), .q (.pick (.t 70) (.t 72) (.v (.bool false))), []⟩,
    ⟨(some 74), none, .q (.pick (.t 67) (.v (.bool true)) (.t 73)), []⟩]
def c7_7 : ACode := .ops [
    ⟨(some 8), none, .q (.mv (.v (.bool false))), []⟩]
def c7_8 : ACode := .seq c7_7 .ret
def c7_9 : ACode := .cond (.t 74) c7_8 .skip
def c7_10 : ACode := .seq c7_6 c7_9
def c7_11 : ACode := .ops [
    ⟨(some 75), none, .q (.mv (.t 0)), []⟩,
    ⟨(some 76), none, .e (.call 9 [(.t 75)]), []⟩,
    ⟨(some 77), none, .q (.un .not (.t 76)), []⟩]
def c7_12 : ACode := .ops [
    ⟨(some 8), none, .q (.mv (.v (.bool true))), []⟩]
def c7_13 : ACode := .seq c7_12 .ret
def c7_14 : ACode := .cond (.t 77) c7_13 .skip
def c7_15 : ACode := .seq c7_11 c7_14
def c7_16 : ACode := .ops [
    ⟨(some 79), none, .q (.mv (.t 0)), []⟩,
    ⟨(some 80), none, .q (.mv (.t 2)), []⟩,
    ⟨(some 81), none, .e (.call 23 [(.t 79), (.t 80)]), []⟩,
    ⟨(some 78), none, .q (.mv (.t 81)), []⟩,
    ⟨(some 82), none, .q (.ext 0 (.t 78)), []⟩,
    ⟨(some 83), none, .q (.ext 1 (.t 78)), []⟩,
    ⟨(some 16), none, .q (.mv (.t 82)), []⟩,
    ⟨(some 17), none, .q (.mv (.t 83)), []⟩]
def c7_17 : ACode := .ops [
    ⟨(some 85), none, .q (.mv (.t 0)), []⟩,
    ⟨(some 86), none, .q (.mv (.t 2)), []⟩,
    ⟨(some 87), none, .e (.call 24 [(.t 85), (.t 86)]), []⟩,
    ⟨(some 84), none, .q (.mv (.t 87)), []⟩,
    ⟨(some 88), none, .q (.ext 0 (.t 84)), []⟩,
    ⟨(some 89), none, .q (.ext 1 (.t 84)), []⟩,
    ⟨(some 18), none, .q (.mv (.t 88)), []⟩,
    ⟨(some 19), none, .q (.mv (.t 89)), []⟩]
def c7_18 : ACode := .ops [
    ⟨(some 90), none, .q (.mv (.t 0)), []⟩,
    ⟨(some 91), none, .e (.call 12 [(.t 90)]), []⟩,
    ⟨(some 92), none, .q (.mv (.t 0)), []⟩,
    ⟨(some 93), none, .e (.call 25 [(.t 92)]), []⟩,
    ⟨(some 94), none, .q (.bin .eql (.t 91) (.t 93)), []⟩,
    ⟨(some 95), none, .q (.mv (.t 94)), []⟩,
    ⟨(some 96), (some (95, true)), .q (.mv (.t 16)), []⟩,
    ⟨(some 97), (some (95, true)), .q (.mv (.t 18)), []⟩,
    ⟨(some 98), (some (95, true)), .q (.bin .eql (.t 96) (.t 97)), []⟩,
    ⟨(some 99), none, .q (.pick (.t 95) (.t 98) (.v (.bool false))), []⟩,
    ⟨(some 100), none, .q (.mv (.t 99)), []⟩,
    ⟨(some 101), (some (100, true)), .q (.mv (.t 17)), []⟩,
    ⟨(some 102), (some (100, true)), .q (.mv (.t 19)), []⟩,
    ⟨(some 103), (some (100, true)), .q (.eq .b false (.t 101) (.t 102)), []⟩,
    ⟨(some 104), none, .q (.pick (.t 100) (.t 103) (.v (.bool false))), []⟩,
    ⟨(some 8), none, .q (.mv (.t 104)), []⟩]
def c7_19 : ACode := .seq c7_18 .ret
def c7_20 : ACode := .seq c7_17 c7_19
def c7_21 : ACode := .seq c7_16 c7_20
def c7_22 : ACode := .seq c7_15 c7_21
def c7_23 : ACode := .seq c7_10 c7_22
def c7_24 : ACode := .seq c7_5 c7_23
def c7_25 : ACode := .seq c7_4 c7_24
def c7_26 : ACode := .seq c7_3 c7_25
def c7_27 : ACode := .seq c7_2 c7_26
def c7_28 : ACode := .seq c7_1 c7_27
def c7_29 : ACode := .seq c7_0 c7_28
@[go_sem] theorem c7_0_wp (P : Program) (Q : APost) (a : AFr) (σ : ASt) : c7_0.wp P Q a σ = ACode.wp P (.ops [
    ⟨(some 8), none, .q (.mv (.v (.bool false))), []⟩]) Q a σ := id rfl
@[go_sem] theorem c7_1_wp (P : Program) (Q : APost) (a : AFr) (σ : ASt) : c7_1.wp P Q a σ = ACode.wp P (.ops [
    ⟨(some 20), none, .q (.mv (.t 1)), []⟩,
    ⟨(some 21), none, .e (.call 19 [(.t 20), (.v (.int .i64 60))]), []⟩,
    ⟨(some 1), none, .q (.mv (.t 21)), []⟩]) Q a σ := id rfl
@[go_sem] theorem c7_2_wp (P : Program) (Q : APost) (a : AFr) (σ : ASt) : c7_2.wp P Q a σ = ACode.wp P (.ops [
    ⟨(some 23), none, .q (.mv (.t 1)), []⟩,
    ⟨(some 24), none, .e (.call 11 [(.t 23)]), []⟩,
    ⟨(some 22), none, .q (.mv (.t 24)), []⟩,
    ⟨(some 25), none, .q (.ext 0 (.t 22)), []⟩,
    ⟨(some 26), none, .q (.ext 1 (.t 22)), []⟩,
    ⟨(some 9), none, .q (.mv (.t 25)), []⟩,
    ⟨(some 10), none, .q (.mv (.t 26)), []⟩]) Q a σ := id rfl
@[go_sem] theorem c7_3_wp (P : Program) (Q : APost) (a : AFr) (σ : ASt) : c7_3.wp P Q a σ = ACode.wp P (.ops [
    ⟨(some 28), none, .q (.mv (.t 1)), []⟩,
    ⟨(some 29), none, .e (.call 20 [(.t 28)]), []⟩,
    ⟨(some 27), none, .q (.mv (.t 29)), []⟩,
    ⟨(some 30), none, .q (.ext 0 (.t 27)), []⟩,
    ⟨(some 31), none, .q (.ext 1 (.t 27)), []⟩,
    ⟨(some 11), none, .q (.mv (.t 30)), []⟩,
    ⟨(some 12), none, .q (.mv (.t 31)), []⟩]) Q a σ := id rfl
@[go_sem] theorem c7_4_wp (P : Program) (Q : APost) (a : AFr) (σ : ASt) : c7_4.wp P Q a σ = ACode.wp P (.ops [
    ⟨(some 33), none, .q (.mv (.t 3)), []⟩,
    ⟨(some 34), none, .e (.call 21 [(.t 33)]), []⟩,
    ⟨(some 32), none, .q (.mv (.t 34)), []⟩,
    ⟨(some 35), none, .q (.ext 0 (.t 32)), []⟩,
    ⟨(some 36), none, .q (.ext 1 (.t 32)), []⟩,
    ⟨(some 13), none, .q (.mv (.t 35)), []⟩,
    ⟨(some 14), none, .q (.mv (.t 36)), []⟩]) Q a σ := id rfl
@[go_sem] theorem c7_5_wp (P : Program) (Q : APost) (a : AFr) (σ : ASt) : c7_5.wp P Q a σ = ACode.wp P (.ops [
    ⟨(some 37), none, .q (.mv (.t 3)), []⟩,
    ⟨(some 38), none, .q (.bin .geq (.t 37) (.v (.int .i64 (-99999999999999)))), []⟩,
    ⟨(some 39), none, .q (.mv (.t 38)), []⟩,
    ⟨(some 40), (some (39, true)), .q (.mv (.t 3)), []⟩,
    ⟨(some 41), (some (39, true)), .q (.bin .leq (.t 40) (.v (.int .i64 99999999999999))), []⟩,
    ⟨(some 42), none, .q (.pick (.t 39) (.t 41) (.v (.bool false))), []⟩,
    ⟨(some 15), none, .q (.mv (.t 42)), []⟩]) Q a σ := id rfl
@[go_sem] theorem c7_6_wp (P : Program) (Q : APost) (a : AFr) (σ : ASt) : c7_6.wp P Q a σ = ACode.wp P (.ops [
    ⟨(some 43), none, .e (.call 10 []), []⟩,
    ⟨(some 44), none, .q (.un .not (.t 43)), []⟩,
    ⟨(some 45), none, .q (.mv (.t 44)), []⟩,
    ⟨(some 46), (some (45, false)), .q (.mv (.t 9)), []⟩,
    ⟨(some 47), (some (45, false)), .q (.mv (.t 10)), []⟩,
    ⟨(some 48), (some (45, false)), .q (.mv (.t 11)), []⟩,
    ⟨(some 49), (some (45, false)), .q (.mv (.t 12)), []⟩,
    ⟨(some 50), (some (45, false)), .e (.call 22 [(.t 46), (.t 47), (.t 48), (.t 49)]), []⟩,
    ⟨(some 51), (some (45, false)), .q (.un .not (.t 50)), []⟩,
    ⟨(some 52), none, .q (.pick (.t 45) (.v (.bool true)) (.t 51)), []⟩,
    ⟨(some 53), none, .q (.mv (.t 52)), []⟩,
    ⟨(some 54), (some (53, false)), .q (.mv (.t 14)), []⟩,
    ⟨(some 55), (some (53, false)), .q (.mv (.t 15)), []⟩,
    ⟨(some 56), (some (53, false)), .q (.eq .b true (.t 54) (.t 55)), []⟩,
    ⟨(some 57), none, .q (.pick (.t 53) (.v (.bool true)) (.t 56)), []⟩,
    ⟨(some 58), none, .q (.mv (.t 57)), []⟩,
    ⟨(some 59), (some (58, false)), .q (.mv (.t 15)), []⟩,
    ⟨(some 60), (some (58, false)), .q (.mv (.t 59)), []⟩,
    ⟨(some 61), (some (60, true)), .q (.mv (.t 13)), []⟩,
    ⟨(some 62), (some (60, true)), .q (.mv (.t 3)), []⟩,
    ⟨(some 63), (some (60, true)), .q (.bin .mul (.t 62) (.v (.int .i64 10000))), []⟩,
    ⟨(some 64), (some (60, true)), .q (.bin .neq (.t 61) (.t 63)), []⟩,
    ⟨(some 65), (some (58, false)), .q (.pick (.t 60) (.t 64) (.v (.bool false))), []⟩,
    ⟨(some 66), none, .q (.pick (.t 58) (.v (.bool true)) (.t 65)), []⟩,
    ⟨(some 67), none, .q (.mv (.t 66)), []⟩,
    ⟨(some 68), (some (67, false)), .q (.mv (.t 15)), []⟩,
    ⟨(some 69), (some (67, false)), .q (.un .not (.t 68)), []⟩,
    ⟨(some 70), (some (67, false)), .q (.mv (.t 69)), []⟩,
    ⟨(some 71), (some (70, true)), .q (.mv (.t 13)), []⟩,
    ⟨(some 72), (some (70, true)), .q (.bin .neq (.t 71) (.v (.int .i64 0))), []⟩,
    ⟨(some 73), (some (67, false)), .q (.pick (.t 70) (.t 72) (.v (.bool false))), []⟩,
    ⟨(some 74), none, .q (.pick (.t 67) (.v (.bool true)) (.t 73)), []⟩]) Q a σ := id rfl
@[go_sem] theorem c7_7_wp (P : Program) (Q : APost) (a : AFr) (σ : ASt) : c7_7.wp P Q a σ = ACode.wp P (.ops [
    ⟨(some 8), none, .q (.mv (.v (.bool false))), []⟩]) Q a σ := id rfl
@[go_sem] theorem c7_8_wp (P : Program) (Q : APost) (a : AFr) (σ : ASt) : c7_8.wp P Q a σ = ACode.wp P (.seq c7_7 .ret) Q a σ := id rfl
@[go_sem] theorem c7_9_wp (P : Program) (Q : APost) (a : AFr) (σ : ASt) : c7_9.wp P Q a σ = ACode.wp P (.cond (.t 74) c7_8 .skip) Q a σ := id rfl
@[go_sem] theorem c7_10_wp (P : Program) (Q : APost) (a : AFr) (σ : ASt) : c7_10.wp P Q a σ = ACode.wp P (.seq c7_6 c7_9) Q a σ := id rfl
@[go_sem] theorem c7_11_wp (P : Program) (Q : APost) (a : AFr) (σ : ASt) : c7_11.wp P Q a σ = ACode.wp P (.ops [
    ⟨(some 75), none, .q (.mv (.t 0)), []⟩,
    ⟨(some 76), none, .e (.call 9 [(.t 75)]), []⟩,
    ⟨(some 77), none, .q (.un .not (.t 76)), []⟩]) Q a σ := id rfl
@[go_sem] theorem c7_12_wp (P : Program) (Q : APost) (a : AFr) (σ : ASt) : c7_12.wp P Q a σ = ACode.wp P (.ops [
    ⟨(some 8), none, .q (.mv (.v (.bool true))), []⟩]) Q a σ := id rfl
@[go_sem] theorem c7_13_wp (P : Program) (Q : APost) (a : AFr) (σ : ASt) : c7_13.wp P Q a σ = ACode.wp P (.seq c7_12 .ret) Q a σ := id rfl
@[go_sem] theorem c7_14_wp (P : Program) (Q : APost) (a : AFr) (σ : ASt) : c7_14.wp P Q a σ = ACode.wp P (.cond (.t 77) c7_13 .skip) Q a σ := id rfl
@[go_sem] theorem c7_15_wp (P : Program) (Q : APost) (a : AFr) (σ : ASt) : c7_15.wp P Q a σ = ACode.wp P (.seq c7_11 c7_14) Q a σ := id rfl
@[go_sem] theorem c7_16_wp (P : Program) (Q : APost) (a : AFr) (σ : ASt) : c7_16.wp P Q a σ = ACode.wp P (.ops [
    ⟨(some 79), none, .q (.mv (.t 0)), []⟩,
    ⟨(some 80), none, .q (.mv (.t 2)), []⟩,
    ⟨(some 81), none, .e (.call 23 [(.t 79), (.t 80)]), []⟩,
    ⟨(some 78), none, .q (.mv (.t 81)), []⟩,
    ⟨(some 82), none, .q (.ext 0 (.t 78)), []⟩,
    ⟨(some 83), none, .q (.ext 1 (.t 78)), []⟩,
    ⟨(some 16), none, .q (.mv (.t 82)), []⟩,
    ⟨(some 17), none, .q (.mv (.t 83)), []⟩]) Q a σ := id rfl
@[go_sem] theorem c7_17_wp (P : Program) (Q : APost) (a : AFr) (σ : ASt) : c7_17.wp P Q a σ = ACode.wp P (.ops [
    ⟨(some 85), none, .q (.mv (.t 0)), []⟩,
    ⟨(some 86), none, .q (.mv (.t 2)), []⟩,
    ⟨(some 87), none, .e (.call 24 [(.t 85), (.t 86)]), []⟩,
    ⟨(some 84), none, .q (.mv (.t 87)), []⟩,
    ⟨(some 88), none, .q (.ext 0 (.t 84)), []⟩,
    ⟨(some 89), none, .q (.ext 1 (.t 84)), []⟩,
    ⟨(some 18), none, .q (.mv (.t 88)), []⟩,
    ⟨(some 19), none, .q (.mv (.t 89)), []⟩]) Q a σ := id rfl
@[go_sem] theorem c7_18_wp (P : Program) (Q : APost) (a : AFr) (σ : ASt) : c7_18.wp P Q a σ = ACode.wp P (.ops [
    ⟨(some 90), none, .q (.mv (.t 0)), []⟩,
    ⟨(some 91), none, .e (.call 12 [(.t 90)]), []⟩,
    ⟨(some 92), none, .q (.mv (.t 0)), []⟩,
    ⟨(some 93), none, .e (.call 25 [(.t 92)]), []⟩,
    ⟨(some 94), none, .q (.bin .eql (.t 91) (.t 93)), []⟩,
    ⟨(some 95), none, .q (.mv (.t 94)), []⟩,
    ⟨(some 96), (some (95, true)), .q (.mv (.t 16)), []⟩,
    ⟨(some 97), (some (95, true)), .q (.mv (.t 18)), []⟩,
    ⟨(some 98), (some (95, true)), .q (.bin .eql (.t 96) (.t 97)), []⟩,
    ⟨(some 99), none, .q (.pick (.t 95) (.t 98) (.v (.bool false))), []⟩,
    ⟨(some 100), none, .q (.mv (.t 99)), []⟩,
    ⟨(some 101), (some (100, true)), .q (.mv (.t 17)), []⟩,
    ⟨(some 102), (some (100, true)), .q (.mv (.t 19)), []⟩,
    ⟨(some 103), (some (100, true)), .q (.eq .b false (.t 101) (.t 102)), []⟩,
    ⟨(some 104), none, .q (.pick (.t 100) (.t 103) (.v (.bool false))), []⟩,
    ⟨(some 8), none, .q (.mv (.t 104)), []⟩]) Q a σ := id rfl
@[go_sem] theorem c7_19_wp (P : Program) (Q : APost) (a : AFr) (σ : ASt) : c7_19.wp P Q a σ = ACode.wp P (.seq c7_18 .ret) Q a σ := id rfl
@[go_sem] theorem c7_20_wp (P : Program) (Q : APost) (a : AFr) (σ : ASt) : c7_20.wp P Q a σ = ACode.wp P (.seq c7_17 c7_19) Q a σ := id rfl
@[go_sem] theorem c7_21_wp (P : Program) (Q : APost) (a : AFr) (σ : ASt) : c7_21.wp P Q a σ = ACode.wp P (.seq c7_16 c7_20) Q a σ := id rfl
@[go_sem] theorem c7_22_wp (P : Program) (Q : APost) (a : AFr) (σ : ASt) : c7_22.wp P Q a σ = ACode.wp P (.seq c7_15 c7_21) Q a σ := id rfl
@[go_sem] theorem c7_23_wp (P : Program) (Q : APost) (a : AFr) (σ : ASt) : c7_23.wp P Q a σ = ACode.wp P (.seq c7_10 c7_22) Q a σ := id rfl
@[go_sem] theorem c7_24_wp (P : Program) (Q : APost) (a : AFr) (σ : ASt) : c7_24.wp P Q a σ = ACode.wp P (.seq c7_5 c7_23) Q a σ := id rfl
@[go_sem] theorem c7_25_wp (P : Program) (Q : APost) (a : AFr) (σ : ASt) : c7_25.wp P Q a σ = ACode.wp P (.seq c7_4 c7_24) Q a σ := id rfl
@[go_sem] theorem c7_26_wp (P : Program) (Q : APost) (a : AFr) (σ : ASt) : c7_26.wp P Q a σ = ACode.wp P (.seq c7_3 c7_25) Q a σ := id rfl
@[go_sem] theorem c7_27_wp (P : Program) (Q : APost) (a : AFr) (σ : ASt) : c7_27.wp P Q a σ = ACode.wp P (.seq c7_2 c7_26) Q a σ := id rfl
@[go_sem] theorem c7_28_wp (P : Program) (Q : APost) (a : AFr) (σ : ASt) : c7_28.wp P Q a σ = ACode.wp P (.seq c7_1 c7_27) Q a σ := id rfl
@[go_sem] theorem c7_29_wp (P : Program) (Q : APost) (a : AFr) (σ : ASt) : c7_29.wp P Q a σ = ACode.wp P (.seq c7_0 c7_28) Q a σ := id rfl
def c7 : AFn := ⟨105, [.t 8], c7_29⟩
set_option maxRecDepth 100000 in
theorem c7_ok : compF Tryd.prog Tryd.f7 = some c7 := by kernel_rfl
theorem a7 {args : List AV} {σ : ASt} {R : AV → ASt → Prop} (hl : args.length ≤ 105) (h : c7_29.wp Tryd.prog (RetQ [.t 8] R) (init args) σ) : ACalls Tryd.prog 7 args σ R := acalls_of Tryd.func7 c7_ok hl h

/-! 19: tabular/tabularlaw01.Cut -/
def c19_0 : ACode := .ops [
    ⟨(some 4), none, .q (.mv (.v (.str []))), []⟩]
def c19_1 : ACode := .ops [
    ⟨(some 5), none, .q (.mv (.t 0)), []⟩,
    ⟨(some 6), none, .q (.lenS (.t 5)), []⟩,
    ⟨(some 7), none, .q (.mv (.t 1)), []⟩,
    ⟨(some 8), none, .q (.bin .gtr (.t 6) (.t 7)), []⟩]
def c19_2 : ACode := .ops [
    ⟨(some 9), none, .q (.mv (.t 0)), []⟩,
    ⟨(some 10), none, .q (.mv (.t 1)), []⟩,
    ⟨(some 11), none, .q (.slto (true, 0) (.t 9) (.t 10)), []⟩,
    ⟨(some 4), none, .q (.mv (.t 11)), []⟩]
def c19_3 : ACode := .seq c19_2 .ret
def c19_4 : ACode := .cond (.t 8) c19_3 .skip
def c19_5 : ACode := .seq c19_1 c19_4
def c19_6 : ACode := .ops [
    ⟨(some 12), none, .q (.mv (.t 0)), []⟩,
    ⟨(some 4), none, .q (.mv (.t 12)), []⟩]
def c19_7 : ACode := .seq c19_6 .ret
def c19_8 : ACode := .seq c19_5 c19_7
def c19_9 : ACode := .seq c19_0 c19_8
@[go_sem] theorem c19_0_wp (P : Program) (Q : APost) (a : AFr) (σ : ASt) : c19_0.wp P Q a σ = ACode.wp P (.ops [
    ⟨(some 4), none, .q (.mv (.v (.str []))), []⟩]) Q a σ := id rfl
@[go_sem] theorem c19_1_wp (P : Program) (Q : APost) (a : AFr) (σ : ASt) : c19_1.wp P Q a σ = ACode.wp P (.ops [
    ⟨(some 5), none, .q (.mv (.t 0)), []⟩,
    ⟨(some 6), none, .q (.lenS (.t 5)), []⟩,
    ⟨(some 7), none, .q (.mv (.t 1)), []⟩,
    ⟨(some 8), none, .q (.bin .gtr (.t 6) (.t 7)), []⟩]) Q a σ := id rfl
@[go_sem] theorem c19_2_wp (P : Program) (Q : APost) (a : AFr) (σ : ASt) : c19_2.wp P Q a σ = ACode.wp P (.ops [
    ⟨(some 9), none, .q (.mv (.t 0)), []⟩,
    ⟨(some 10), none, .q (.mv (.t 1)), []⟩,
    ⟨(some 11), none, .q (.slto (true, 0) (.t 9) (.t 10)), []⟩,
    ⟨(some 4), none, .q (.mv (.t 11)), []⟩]) Q a σ := id rfl
@[go_sem] theorem c19_3_wp (P : Program) (Q : APost) (a : AFr) (σ : ASt) : c19_3.wp P Q a σ = ACode.wp P (.seq c19_2 .ret) Q a σ := id rfl
@[go_sem] theorem c19_4_wp (P : Program) (Q : APost) (a : AFr) (σ : ASt) : c19_4.wp P Q a σ = ACode.wp P (.cond (.t 8) c19_3 .skip) Q a σ := id rfl
@[go_sem] theorem c19_5_wp (P : Program) (Q : APost) (a : AFr) (σ : ASt) : c19_5.wp P Q a σ = ACode.wp P (.seq c19_1 c19_4) Q a σ := id rfl
@[go_sem] theorem c19_6_wp (P : Program) (Q : APost) (a : AFr) (σ : ASt) : c19_6.wp P Q a σ = ACode.wp P (.ops [
    ⟨(some 12), none, .q (.mv (.t 0)), []⟩,
    ⟨(some 4), none, .q (.mv (.t 12)), []⟩]) Q a σ := id rfl
@[go_sem] theorem c19_7_wp (P : Program) (Q : APost) (a : AFr) (σ : ASt) : c19_7.wp P Q a σ = ACode.wp P (.seq c19_6 .ret) Q a σ := id rfl
@[go_sem] theorem c19_8_wp (P : Program) (Q : APost) (a : AFr) (σ : ASt) : c19_8.wp P Q a σ = ACode.wp P (.seq c19_5 c19_7) Q a σ := id rfl
@[go_sem] theorem c19_9_wp (P : Program) (Q : APost) (a : AFr) (σ : ASt) : c19_9.wp P Q a σ = ACode.wp P (.seq c19_0 c19_8) Q a σ := id rfl
def c19 : AFn := ⟨13, [.t 4], c19_9⟩
set_option maxRecDepth 100000 in
theorem c19_ok : compF Tryd.prog Tryd.f19 = some c19 := by kernel_rfl
theorem a19 {args : List AV} {σ : ASt} {R : AV → ASt → Prop} (hl : args.length ≤ 13) (h : c19_9.wp Tryd.prog (RetQ [.t 4] R) (init args) σ) : ACalls Tryd.prog 19 args σ R := acalls_of Tryd.func19 c19_ok hl h

/-! 20: tabular/tabularref01.Parse -/
def c20_0 : ACode := .ops [
    ⟨(some 2), none, .q (.mv (.v (.int .i64 0))), []⟩,
    ⟨(some 3), none, .q (.mv (.v (.bool false))), []⟩]
def c20_1 : ACode := .ops [
    ⟨(some 9), none, .q (.mv (.t 0)), []⟩,
    ⟨(some 10), none, .q (.lenS (.t 9)), []⟩,
    ⟨(some 11), none, .q (.bin .gtr (.t 10) (.v (.int .i64 0))), []⟩,
    ⟨(some 12), none, .q (.mv (.t 11)), []⟩,
    ⟨(some 13), (some (12, true)), .q (.mv (.t 0)), []⟩,
    ⟨(some 14), (some (12, true)), .q (.idx (.t 13) (.v (.int .i64 0))), []⟩,
    ⟨(some 15), (some (12, true)), .q (.bin .eql (.t 14) (.v (.int .u8 45))), []⟩,
    ⟨(some 16), none, .q (.pick (.t 12) (.t 15) (.v (.bool false))), []⟩,
    ⟨(some 4), none, .q (.mv (.t 16)), []⟩]
def c20_2 : ACode := .ops [
    ⟨(some 17), none, .q (.mv (.t 4)), []⟩]
def c20_3 : ACode := .ops [
    ⟨(some 18), none, .q (.mv (.t 0)), []⟩,
    ⟨(some 19), none, .q (.slfrom (true, 0) (.t 18) (.v (.int .i64 1))), []⟩,
    ⟨(some 0), none, .q (.mv (.t 19)), []⟩]
def c20_4 : ACode := .cond (.t 17) c20_3 .skip
def c20_5 : ACode := .seq c20_2 c20_4
def c20_6 : ACode := .ops [
    ⟨(some 5), none, .q (.mv (.v (.str []))), []⟩,
    ⟨(some 6), none, .q (.mv (.v (.str []))), []⟩,
    ⟨(some 7), none, .q (.mv (.v (.int .i64 0))), []⟩]
def c20_7 : ACode := .ops [
    ⟨(some 8), none, .q (.mv (.v (.int .i64 0))), []⟩]
def c20_8 : ACode := .ops [
    ⟨(some 20), none, .q (.mv (.t 8)), []⟩,
    ⟨(some 21), none, .q (.mv (.t 0)), []⟩,
    ⟨(some 22), none, .q (.lenS (.t 21)), []⟩,
    ⟨(some 23), none, .q (.bin .lss (.t 20) (.t 22)), []⟩]
def c20_9 : ACode := .cond (.t 23) .skip (.exit 0)
def c20_10 : ACode := .seq c20_8 c20_9
def c20_11 : ACode := .ops [
    ⟨(some 26), none, .q (.mv (.t 0)), []⟩,
    ⟨(some 27), none, .q (.mv (.t 8)), []⟩,
    ⟨(some 28), none, .q (.idx (.t 26) (.t 27)), []⟩,
    ⟨(some 29), none, .q (.bin .eql (.t 28) (.v (.int .u8 46))), []⟩]
def c20_12 : ACode := .ops [
    ⟨(some 30), none, .q (.mv (.t 7)), []⟩,
    ⟨(some 31), none, .q (.bin .add (.t 30) (.v (.int .i64 1))), []⟩,
    ⟨(some 7), none, .q (.mv (.t 31)), []⟩]
def c20_13 : ACode := .ops [
    ⟨(some 32), none, .q (.mv (.t 0)), []⟩,
    ⟨(some 33), none, .q (.mv (.t 8)), []⟩,
    ⟨(some 34), none, .q (.idx (.t 32) (.t 33)), []⟩,
    ⟨(some 35), none, .q (.bin .lss (.t 34) (.v (.int .u8 48))), []⟩,
    ⟨(some 36), none, .q (.mv (.t 35)), []⟩,
    ⟨(some 37), (some (36, false)), .q (.mv (.t 0)), []⟩,
    ⟨(some 38), (some (36, false)), .q (.mv (.t 8)), []⟩,
    ⟨(some 39), (some (36, false)), .q (.idx (.t 37) (.t 38)), []⟩,
    ⟨(some 40), (some (36, false)), .q (.bin .gtr (.t 39) (.v (.int .u8 57))), []⟩,
    ⟨(some 41), none, .q (.pick (.t 36) (.v (.bool true)) (.t 40)), []⟩]
def c20_14 : ACode := .ops [
    ⟨(some 2), none, .q (.mv (.v (.int .i64 0))), []⟩,
    ⟨(some 3), none, .q (.mv (.v (.bool false))), []⟩]
def c20_15 : ACode := .seq c20_14 .ret
def c20_16 : ACode := .ops [
    ⟨(some 42), none, .q (.mv (.t 7)), []⟩,
    ⟨(some 43), none, .q (.bin .eql (.t 42) (.v (.int .i64 0))), []⟩]
def c20_17 : ACode := .ops [
    ⟨(some 44), none, .q (.mv (.t 5)), []⟩,
    ⟨(some 45), none, .q (.mv (.t 0)), []⟩,
    ⟨(some 46), none, .q (.mv (.t 8)), []⟩,
    ⟨(some 47), none, .q (.mv (.t 8)), []⟩,
    ⟨(some 48), none, .q (.bin .add (.t 47) (.v (.int .i64 1))), []⟩,
    ⟨(some 49), none, .q (.sls (true, 0) (.t 45) (.t 46) (.t 48)), []⟩,
    ⟨(some 50), none, .q (.bin .add (.t 44) (.t 49)), []⟩,
    ⟨(some 5), none, .q (.mv (.t 50)), []⟩]
def c20_18 : ACode := .ops [
    ⟨(some 51), none, .q (.mv (.t 6)), []⟩,
    ⟨(some 52), none, .q (.mv (.t 0)), []⟩,
    ⟨(some 53), none, .q (.mv (.t 8)), []⟩,
    ⟨(some 54), none, .q (.mv (.t 8)), []⟩,
    ⟨(some 55), none, .q (.bin .add (.t 54) (.v (.int .i64 1))), []⟩,
    ⟨(some 56), none, .q (.sls (true, 0) (.t 52) (.t 53) (.t 55)), []⟩,
    ⟨(some 57), none, .q (.bin .add (.t 51) (.t 56)), []⟩,
    ⟨(some 6), none, .q (.mv (.t 57)), []⟩]
def c20_19 : ACode := .cond (.t 43) c20_17 c20_18
def c20_20 : ACode := .seq c20_16 c20_19
def c20_21 : ACode := .cond (.t 41) c20_15 c20_20
def c20_22 : ACode := .seq c20_13 c20_21
def c20_23 : ACode := .cond (.t 29) c20_12 c20_22
def c20_24 : ACode := .seq c20_11 c20_23
def c20_25 : ACode := .block 1 c20_24
def c20_26 : ACode := .ops [
    ⟨(some 24), none, .q (.mv (.t 8)), []⟩,
    ⟨(some 25), none, .q (.bin .add (.t 24) (.v (.int .i64 1))), []⟩,
    ⟨(some 8), none, .q (.mv (.t 25)), []⟩]
def c20_27 : ACode := .seq c20_25 c20_26
def c20_28 : ACode := .seq c20_10 c20_27
def c20_29 : ACode := .loop c20_28
def c20_30 : ACode := .block 0 c20_29
def c20_31 : ACode := .seq c20_7 c20_30
def c20_32 : ACode := .ops [
    ⟨(some 58), none, .q (.mv (.t 7)), []⟩,
    ⟨(some 59), none, .q (.bin .gtr (.t 58) (.v (.int .i64 1))), []⟩,
    ⟨(some 60), none, .q (.mv (.t 59)), []⟩,
    ⟨(some 61), (some (60, false)), .q (.mv (.t 5)), []⟩,
    ⟨(some 62), (some (60, false)), .q (.lenS (.t 61)), []⟩,
    ⟨(some 63), (some (60, false)), .q (.bin .eql (.t 62) (.v (.int .i64 0))), []⟩,
    ⟨(some 64), none, .q (.pick (.t 60) (.v (.bool true)) (.t 63)), []⟩,
    ⟨(some 65), none, .q (.mv (.t 64)), []⟩,
    ⟨(some 66), (some (65, false)), .q (.mv (.t 7)), []⟩,
    ⟨(some 67), (some (65, false)), .q (.bin .eql (.t 66) (.v (.int .i64 1))), []⟩,
    ⟨(some 68), (some (65, false)), .q (.mv (.t 67)), []⟩,
    ⟨(some 69), (some (68, true)), .q (.mv (.t 6)), []⟩,
    ⟨(some 70), (some (68, true)), .q (.lenS (.t 69)), []⟩,
    ⟨(some 71), (some (68, true)), .q (.bin .eql (.t 70) (.v (.int .i64 0))), []⟩,
    ⟨(some 72), (some (65, false)), .q (.pick (.t 68) (.t 71) (.v (.bool false))), []⟩,
    ⟨(some 73), none, .q (.pick (.t 65) (.v (.bool true)) (.t 72)), []⟩,
    ⟨(some 74), none, .q (.mv (.t 73)), []⟩,
    ⟨(some 75), (some (74, false)), .q (.mv (.t 6)), []⟩,
    ⟨(some 76), (some (74, false)), .q (.lenS (.t 75)), []⟩,
    ⟨(some 77), (some (74, false)), .q (.bin .gtr (.t 76) (.v (.int .i64 4))), []⟩,
    ⟨(some 78), none, .q (.pick (.t 74) (.v (.bool true)) (.t 77)), []⟩]
def c20_33 : ACode := .ops [
    ⟨(some 2), none, .q (.mv (.v (.int .i64 0))), []⟩,
    ⟨(some 3), none, .q (.mv (.v (.bool false))), []⟩]
def c20_34 : ACode := .seq c20_33 .ret
def c20_35 : ACode := .cond (.t 78) c20_34 .skip
def c20_36 : ACode := .seq c20_32 c20_35
def c20_37 : ACode := .ops [
    ⟨(some 79), none, .q (.mv (.t 6)), []⟩,
    ⟨(some 80), none, .q (.lenS (.t 79)), []⟩,
    ⟨(some 81), none, .q (.bin .lss (.t 80) (.v (.int .i64 4))), []⟩]
def c20_38 : ACode := .cond (.t 81) .skip (.exit 2)
def c20_39 : ACode := .seq c20_37 c20_38
def c20_40 : ACode := .ops [
    ⟨(some 82), none, .q (.mv (.t 6)), []⟩,
    ⟨(some 83), none, .q (.bin .add (.t 82) (.v (.str [48]))), []⟩,
    ⟨(some 6), none, .q (.mv (.t 83)), []⟩]
def c20_41 : ACode := .block 3 c20_40
def c20_42 : ACode := .seq c20_39 c20_41
def c20_43 : ACode := .loop c20_42
def c20_44 : ACode := .block 2 c20_43
def c20_45 : ACode := .ops [
    ⟨(some 84), none, .q (.mv (.t 4)), []⟩,
    ⟨(some 85), none, .q (.mv (.t 5)), []⟩,
    ⟨(some 86), none, .q (.mv (.t 6)), []⟩,
    ⟨(some 87), none, .q (.bin .add (.t 85) (.t 86)), []⟩,
    ⟨(some 88), none, .e (.call 46 [(.t 87)]), []⟩,
    ⟨(some 89), none, .e (.call 45 [(.t 84), (.t 88)]), []⟩,
    ⟨(some 90), none, .q (.ext 0 (.t 89)), []⟩,
    ⟨(some 91), none, .q (.ext 1 (.t 89)), []⟩,
    ⟨(some 2), none, .q (.mv (.t 90)), []⟩,
    ⟨(some 3), none, .q (.mv (.t 91)), []⟩]
def c20_46 : ACode := .seq c20_45 .ret
def c20_47 : ACode := .seq c20_44 c20_46
def c20_48 : ACode := .seq c20_36 c20_47
def c20_49 : ACode := .seq c20_31 c20_48
def c20_50 : ACode := .seq c20_6 c20_49
def c20_51 : ACode := .seq c20_5 c20_50
def c20_52 : ACode := .seq c20_1 c20_51
def c20_53 : ACode := .seq c20_0 c20_52
@[go_sem] theorem c20_0_wp (P : Program) (Q : APost) (a : AFr) (σ : ASt) : c20_0.wp P Q a σ = ACode.wp P (.ops [
    ⟨(some 2), none, .q (.mv (.v (.int .i64 0))), []⟩,
    ⟨(some 3), none, .q (.mv (.v (.bool false))), []⟩]) Q a σ := id rfl
@[go_sem] theorem c20_1_wp (P : Program) (Q : APost) (a : AFr) (σ : ASt) : c20_1.wp P Q a σ = ACode.wp P (.ops [
    ⟨(some 9), none, .q (.mv (.t 0)), []⟩,
    ⟨(some 10), none, .q (.lenS (.t 9)), []⟩,
    ⟨(some 11), none, .q (.bin .gtr (.t 10) (.v (.int .i64 0))), []⟩,
    ⟨(some 12), none, .q (.mv (.t 11)), []⟩,
    ⟨(some 13), (some (12, true)), .q (.mv (.t 0)), []⟩,
    ⟨(some 14), (some (12, true)), .q (.idx (.t 13) (.v (.int .i64 0))), []⟩,
    ⟨(some 15), (some (12, true)), .q (.bin .eql (.t 14) (.v (.int .u8 45))), []⟩,
    ⟨(some 16), none, .q (.pick (.t 12) (.t 15) (.v (.bool false))), []⟩,
    ⟨(some 4), none, .q (.mv (.t 16)), []⟩]) Q a σ := id rfl
@[go_sem] theorem c20_2_wp (P : Program) (Q : APost) (a : AFr) (σ : ASt) : c20_2.wp P Q a σ = ACode.wp P (.ops [
    ⟨(some 17), none, .q (.mv (.t 4)), []⟩]) Q a σ := id rfl
@[go_sem] theorem c20_3_wp (P : Program) (Q : APost) (a : AFr) (σ : ASt) : c20_3.wp P Q a σ = ACode.wp P (.ops [
    ⟨(some 18), none, .q (.mv (.t 0)), []⟩,
    ⟨(some 19), none, .q (.slfrom (true, 0) (.t 18) (.v (.int .i64 1))), []⟩,
    ⟨(some 0), none, .q (.mv (.t 19)), []⟩]) Q a σ := id rfl
@[go_sem] theorem c20_4_wp (P : Program) (Q : APost) (a : AFr) (σ : ASt) : c20_4.wp P Q a σ = ACode.wp P (.cond (.t 17) c20_3 .skip) Q a σ := id rfl
@[go_sem] theorem c20_5_wp (P : Program) (Q : APost) (a : AFr) (σ : ASt) : c20_5.wp P Q a σ = ACode.wp P (.seq c20_2 c20_4) Q a σ := id rfl
@[go_sem] theorem c20_6_wp (P : Program) (Q : APost) (a : AFr) (σ : ASt) : c20_6.wp P Q a σ = ACode.wp P (.ops [
    ⟨(some 5), none, .q (.mv (.v (.str []))), []⟩,
    ⟨(some 6), none, .q (.mv (.v (.str []))), []⟩,
    ⟨(some 7), none, .q (.mv (.v (.int .i64 0))), []⟩]) Q a σ := id rfl
@[go_sem] theorem c20_7_wp (P : Program) (Q : APost) (a : AFr) (σ : ASt) : c20_7.wp P Q a σ = ACode.wp P (.ops [
    ⟨(some 8), none, .q (.mv (.v (.int .i64 0))), []⟩]) Q a σ := id rfl
@[go_sem] theorem c20_8_wp (P : Program) (Q : APost) (a : AFr) (σ : ASt) : c20_8.wp P Q a σ = ACode.wp P (.ops [
    ⟨(some 20), none, .q (.mv (.t 8)), []⟩,
    ⟨(some 21), none, .q (.mv (.t 0)), []⟩,
    ⟨(some 22), none, .q (.lenS (.t 21)), []⟩,
    ⟨(some 23), none, .q (.bin .lss (.t 20) (.t 22)), []⟩]) Q a σ := id rfl
@[go_sem] theorem c20_9_wp (P : Program) (Q : APost) (a : AFr) (σ : ASt) : c20_9.wp P Q a σ = ACode.wp P (.cond (.t 23) .skip (.exit 0)) Q a σ := id rfl
@[go_sem] theorem c20_10_wp (P : Program) (Q : APost) (a : AFr) (σ : ASt) : c20_10.wp P Q a σ = ACode.wp P (.seq c20_8 c20_9) Q a σ := id rfl
@[go_sem] theorem c20_11_wp (P : Program) (Q : APost) (a : AFr) (σ : ASt) : c20_11.wp P Q a σ = ACode.wp P (.ops [
    ⟨(some 26), none, .q (.mv (.t 0)), []⟩,
    ⟨(some 27), none, .q (.mv (.t 8)), []⟩,
    ⟨(some 28), none, .q (.idx (.t 26) (.t 27)), []⟩,
    ⟨(some 29), none, .q (.bin .eql (.t 28) (.v (.int .u8 46))), []⟩]) Q a σ := id rfl
@[go_sem] theorem c20_12_wp (P : Program) (Q : APost) (a : AFr) (σ : ASt) : c20_12.wp P Q a σ = ACode.wp P (.ops [
    ⟨(some 30), none, .q (.mv (.t 7)), []⟩,
    ⟨(some 31), none, .q (.bin .add (.t 30) (.v (.int .i64 1))), []⟩,
    ⟨(some 7), none, .q (.mv (.t 31)), []⟩]) Q a σ := id rfl
@[go_sem] theorem c20_13_wp (P : Program) (Q : APost) (a : AFr) (σ : ASt) : c20_13.wp P Q a σ = ACode.wp P (.ops [
    ⟨(some 32), none, .q (.mv (.t 0)), []⟩,
    ⟨(some 33), none, .q (.mv (.t 8)), []⟩,
    ⟨(some 34), none, .q (.idx (.t 32) (.t 33)), []⟩,
    ⟨(some 35), none, .q (.bin .lss (.t 34) (.v (.int .u8 48))), []⟩,
    ⟨(some 36), none, .q (.mv (.t 35)), []⟩,
    ⟨(some 37), (some (36, false)), .q (.mv (.t 0)), []⟩,
    ⟨(some 38), (some (36, false)), .q (.mv (.t 8)), []⟩,
    ⟨(some 39), (some (36, false)), .q (.idx (.t 37) (.t 38)), []⟩,
    ⟨(some 40), (some (36, false)), .q (.bin .gtr (.t 39) (.v (.int .u8 57))), []⟩,
    ⟨(some 41), none, .q (.pick (.t 36) (.v (.bool true)) (.t 40)), []⟩]) Q a σ := id rfl
@[go_sem] theorem c20_14_wp (P : Program) (Q : APost) (a : AFr) (σ : ASt) : c20_14.wp P Q a σ = ACode.wp P (.ops [
    ⟨(some 2), none, .q (.mv (.v (.int .i64 0))), []⟩,
    ⟨(some 3), none, .q (.mv (.v (.bool false))), []⟩]) Q a σ := id rfl
@[go_sem] theorem c20_15_wp (P : Program) (Q : APost) (a : AFr) (σ : ASt) : c20_15.wp P Q a σ = ACode.wp P (.seq c20_14 .ret) Q a σ := id rfl
@[go_sem] theorem c20_16_wp (P : Program) (Q : APost) (a : AFr) (σ : ASt) : c20_16.wp P Q a σ = ACode.wp P (.ops [
    ⟨(some 42), none, .q (.mv (.t 7)), []⟩,
    ⟨(some 43), none, .q (.bin .eql (.t 42) (.v (.int .i64 0))), []⟩]) Q a σ := id rfl
@[go_sem] theorem c20_17_wp (P : Program) (Q : APost) (a : AFr) (σ : ASt) : c20_17.wp P Q a σ = ACode.wp P (.ops [
    ⟨(some 44), none, .q (.mv (.t 5)), []⟩,
    ⟨(some 45), none, .q (.mv (.t 0)), []⟩,
    ⟨(some 46), none, .q (.mv (.t 8)), []⟩,
    ⟨(some 47), none, .q (.mv (.t 8)), []⟩,
    ⟨(some 48), none, .q (.bin .add (.t 47) (.v (.int .i64 1))), []⟩,
    ⟨(some 49), none, .q (.sls (true, 0) (.t 45) (.t 46) (.t 48)), []⟩,
    ⟨(some 50), none, .q (.bin .add (.t 44) (.t 49)), []⟩,
    ⟨(some 5), none, .q (.mv (.t 50)), []⟩]) Q a σ := id rfl
@[go_sem] theorem c20_18_wp (P : Program) (Q : APost) (a : AFr) (σ : ASt) : c20_18.wp P Q a σ = ACode.wp P (.ops [
    ⟨(some 51), none, .q (.mv (.t 6)), []⟩,
    ⟨(some 52), none, .q (.mv (.t 0)), []⟩,
    ⟨(some 53), none, .q (.mv (.t 8)), []⟩,
    ⟨(some 54), none, .q (.mv (.t 8)), []⟩,
    ⟨(some 55), none, .q (.bin .add (.t 54) (.v (.int .i64 1))), []⟩,
    ⟨(some 56), none, .q (.sls (true, 0) (.t 52) (.t 53) (.t 55)), []⟩,
    ⟨(some 57), none, .q (.bin .add (.t 51) (.t 56)), []⟩,
    ⟨(some 6), none, .q (.mv (.t 57)), []⟩]) Q a σ := id rfl
@[go_sem] theorem c20_19_wp (P : Program) (Q : APost) (a : AFr) (σ : ASt) : c20_19.wp P Q a σ = ACode.wp P (.cond (.t 43) c20_17 c20_18) Q a σ := id rfl
@[go_sem] theorem c20_20_wp (P : Program) (Q : APost) (a : AFr) (σ : ASt) : c20_20.wp P Q a σ = ACode.wp P (.seq c20_16 c20_19) Q a σ := id rfl
@[go_sem] theorem c20_21_wp (P : Program) (Q : APost) (a : AFr) (σ : ASt) : c20_21.wp P Q a σ = ACode.wp P (.cond (.t 41) c20_15 c20_20) Q a σ := id rfl
@[go_sem] theorem c20_22_wp (P : Program) (Q : APost) (a : AFr) (σ : ASt) : c20_22.wp P Q a σ = ACode.wp P (.seq c20_13 c20_21) Q a σ := id rfl
@[go_sem] theorem c20_23_wp (P : Program) (Q : APost) (a : AFr) (σ : ASt) : c20_23.wp P Q a σ = ACode.wp P (.cond (.t 29) c20_12 c20_22) Q a σ := id rfl
@[go_sem] theorem c20_24_wp (P : Program) (Q : APost) (a : AFr) (σ : ASt) : c20_24.wp P Q a σ = ACode.wp P (.seq c20_11 c20_23) Q a σ := id rfl
@[go_sem] theorem c20_25_wp (P : Program) (Q : APost) (a : AFr) (σ : ASt) : c20_25.wp P Q a σ = ACode.wp P (.block 1 c20_24) Q a σ := id rfl
@[go_sem] theorem c20_26_wp (P : Program) (Q : APost) (a : AFr) (σ : ASt) : c20_26.wp P Q a σ = ACode.wp P (.ops [
    ⟨(some 24), none, .q (.mv (.t 8)), []⟩,
    ⟨(some 25), none, .q (.bin .add (.t 24) (.v (.int .i64 1))), []⟩,
    ⟨(some 8), none, .q (.mv (.t 25)), []⟩]) Q a σ := id rfl
@[go_sem] theorem c20_27_wp (P : Program) (Q : APost) (a : AFr) (σ : ASt) : c20_27.wp P Q a σ = ACode.wp P (.seq c20_25 c20_26) Q a σ := id rfl
@[go_sem] theorem c20_28_wp (P : Program) (Q : APost) (a : AFr) (σ : ASt) : c20_28.wp P Q a σ = ACode.wp P (.seq c20_10 c20_27) Q a σ := id rfl
@[go_sem] theorem c20_29_wp (P : Program) (Q : APost) (a : AFr) (σ : ASt) : c20_29.wp P Q a σ = ACode.wp P (.loop c20_28) Q a σ := id rfl
@[go_sem] theorem c20_30_wp (P : Program) (Q : APost) (a : AFr) (σ : ASt) : c20_30.wp P Q a σ = ACode.wp P (.block 0 c20_29) Q a σ := id rfl
@[go_sem] theorem c20_31_wp (P : Program) (Q : APost) (a : AFr) (σ : ASt) : c20_31.wp P Q a σ = ACode.wp P (.seq c20_7 c20_30) Q a σ := id rfl
@[go_sem] theorem c20_32_wp (P : Program) (Q : APost) (a : AFr) (σ : ASt) : c20_32.wp P Q a σ = ACode.wp P (.ops [
    ⟨(some 58), none, .q (.mv (.t 7)), []⟩,
    ⟨(some 59), none, .q (.bin .gtr (.t 58) (.v (.int .i64 1))), []⟩,
    ⟨(some 60), none, .q (.mv (.t 59)), []⟩,
    ⟨(some 61), (some (60, false)), .q (.mv (.t 5)), []⟩,
    ⟨(some 62), (some (60, false)), .q (.lenS (.t 61)), []⟩,
    ⟨(some 63), (some (60, false)), .q (.bin .eql (.t 62) (.v (.int .i64 0))), []⟩,
    ⟨(some 64), none, .q (.pick (.t 60) (.v (.bool true)) (.t 63)), []⟩,
    ⟨(some 65), none, .q (.mv (.t 64)), []⟩,
    ⟨(some 66), (some (65, false)), .q (.mv (.t 7)), []⟩,
    ⟨(some 67), (some (65, false)), .q (.bin .eql (.t 66) (.v (.int .i64 1))), []⟩,
    ⟨(some 68), (some (65, false)), .q (.mv (.t 67)), []⟩,
    ⟨(some 69), (some (68, true)), .q (.mv (.t 6)), []⟩,
    ⟨(some 70), (some (68, true)), .q (.lenS (.t 69)), []⟩,
    ⟨(some 71), (some (68, true)), .q (.bin .eql (.t 70) (.v (.int .i64 0))), []⟩,
    ⟨(some 72), (some (65, false)), .q (.pick (.t 68) (.t 71) (.v (.bool false))), []⟩,
    ⟨(some 73), none, .q (.pick (.t 65) (.v (.bool true)) (.t 72)), []⟩,
    ⟨(some 74), none, .q (.mv (.t 73)), []⟩,
    ⟨(some 75), (some (74, false)), .q (.mv (.t 6)), []⟩,
    ⟨(some 76), (some (74, false)), .q (.lenS (.t 75)), []⟩,
    ⟨(some 77), (some (74, false)), .q (.bin .gtr (.t 76) (.v (.int .i64 4))), []⟩,
    ⟨(some 78), none, .q (.pick (.t 74) (.v (.bool true)) (.t 77)), []⟩]) Q a σ := id rfl
@[go_sem] theorem c20_33_wp (P : Program) (Q : APost) (a : AFr) (σ : ASt) : c20_33.wp P Q a σ = ACode.wp P (.ops [
    ⟨(some 2), none, .q (.mv (.v (.int .i64 0))), []⟩,
    ⟨(some 3), none, .q (.mv (.v (.bool false))), []⟩]) Q a σ := id rfl
@[go_sem] theorem c20_34_wp (P : Program) (Q : APost) (a : AFr) (σ : ASt) : c20_34.wp P Q a σ = ACode.wp P (.seq c20_33 .ret) Q a σ := id rfl
@[go_sem] theorem c20_35_wp (P : Program) (Q : APost) (a : AFr) (σ : ASt) : c20_35.wp P Q a σ = ACode.wp P (.cond (.t 78) c20_34 .skip) Q a σ := id rfl
@[go_sem] theorem c20_36_wp (P : Program) (Q : APost) (a : AFr) (σ : ASt) : c20_36.wp P Q a σ = ACode.wp P (.seq c20_32 c20_35) Q a σ := id rfl
@[go_sem] theorem c20_37_wp (P : Program) (Q : APost) (a : AFr) (σ : ASt) : c20_37.wp P Q a σ = ACode.wp P (.ops [
    ⟨(some 79), none, .q (.mv (.t 6)), []⟩,
    ⟨(some 80), none, .q (.lenS (.t 79)), []⟩,
    ⟨(some 81), none, .q (.bin .lss (.t 80) (.v (.int .i64 4))), []⟩]) Q a σ := id rfl
@[go_sem] theorem c20_38_wp (P : Program) (Q : APost) (a : AFr) (σ : ASt) : c20_38.wp P Q a σ = ACode.wp P (.cond (.t 81) .skip (.exit 2)) Q a σ := id rfl
@[go_sem] theorem c20_39_wp (P : Program) (Q : APost) (a : AFr) (σ : ASt) : c20_39.wp P Q a σ = ACode.wp P (.seq c20_37 c20_38) Q a σ := id rfl
@[go_sem] theorem c20_40_wp (P : Program) (Q : APost) (a : AFr) (σ : ASt) : c20_40.wp P Q a σ = ACode.wp P (.ops [
    ⟨(some 82), none, .q (.mv (.t 6)), []⟩,
    ⟨(some 83), none, .q (.bin .add (.t 82) (.v (.str [48]))), []⟩,
    ⟨(some 6), none, .q (.mv (.t 83)), []⟩]) Q a σ := id rfl
@[go_sem] theorem c20_41_wp (P : Program) (Q : APost) (a : AFr) (σ : ASt) : c20_41.wp P Q a σ = ACode.wp P (.block 3 c20_40) Q a σ := id rfl
@[go_sem] theorem c20_42_wp (P : Program) (Q : APost) (a : AFr) (σ : ASt) : c20_42.wp P Q a σ = ACode.wp P (.seq c20_39 c20_41) Q a σ := id rfl
@[go_sem] theorem c20_43_wp (P : Program) (Q : APost) (a : AFr) (σ : ASt) : c20_43.wp P Q a σ = ACode.wp P (.loop c20_42) Q a σ := id rfl
@[go_sem] theorem c20_44_wp (P : Program) (Q : APost) (a : AFr) (σ : ASt) : c20_44.wp P Q a σ = ACode.wp P (.block 2 c20_43) Q a σ := id rfl
@[go_sem] theorem c20_45_wp (P : Program) (Q : APost) (a : AFr) (σ : ASt) : c20_45.wp P Q a σ = ACode.wp P (.ops [
    ⟨(some 84), none, .q (.mv (.t 4)), []⟩,
    ⟨(some 85), none, .q (.mv (.t 5)), []⟩,
    ⟨(some 86), none, .q (.mv (.t 6)), []⟩,
    ⟨(some 87), none, .q (.bin .add (.t 85) (.t 86)), []⟩,
    ⟨(some 88), none, .e (.call 46 [(.t 87)]), []⟩,
    ⟨(some 89), none, .e (.call 45 [(.t 84), (.t 88)]), []⟩,
    ⟨(some 90), none, .q (.ext 0 (.t 89)), []⟩,
    ⟨(some 91), none, .q (.ext 1 (.t 89)), []⟩,
    ⟨(some 2), none, .q (.mv (.t 90)), []⟩,
    ⟨(some 3), none, .q (.mv (.t 91)), []⟩]) Q a σ := id rfl
@[go_sem] theorem c20_46_wp (P : Program) (Q : APost) (a : AFr) (σ : ASt) : c20_46.wp P Q a σ = ACode.wp P (.seq c20_45 .ret) Q a σ := id rfl
@[go_sem] theorem c20_47_wp (P : Program) (Q : APost) (a : AFr) (σ : ASt) : c20_47.wp P Q a σ = ACode.wp P (.seq c20_44 c20_46) Q a σ := id rfl
@[go_sem] theorem c20_48_wp (P : Program) (Q : APost) (a : AFr) (σ : ASt) : c20_48.wp P Q a σ = ACode.wp P (.seq c20_36 c20_47) Q a σ := id rfl
@[go_sem] theorem c20_49_wp (P : Program) (Q : APost) (a : AFr) (σ : ASt) : c20_49.wp P Q a σ = ACode.wp P (.seq c20_31 c20_48) Q a σ := id rfl
@[go_sem] theorem c20_50_wp (P : Program) (Q : APost) (a : AFr) (σ : ASt) : c20_50.wp P Q a σ = ACode.wp P (.seq c20_6 c20_49) Q a σ := id rfl
@[go_sem] theorem c20_51_wp (P : Program) (Q : APost) (a : AFr) (σ : ASt) : c20_51.wp P Q a σ = ACode.wp P (.seq c20_5 c20_50) Q a σ := id rfl
@[go_sem] theorem c20_52_wp (P : Program) (Q : APost) (a : AFr) (σ : ASt) : c20_52.wp P Q a σ = ACode.wp P (.seq c20_1 c20_51) Q a σ := id rfl
@[go_sem] theorem c20_53_wp (P : Program) (Q : APost) (a : AFr) (σ : ASt) : c20_53.wp P Q a σ = ACode.wp P (.seq c20_0 c20_52) Q a σ := id rfl
def c20 : AFn := ⟨92, [.t 2, .t 3], c20_53⟩
set_option maxRecDepth 100000 in
theorem c20_ok : compF Tryd.prog Tryd.f20 = some c20 := by kernel_rfl
theorem a20 {args : List AV} {σ : ASt} {R : AV → ASt → Prop} (hl : args.length ≤ 92) (h : c20_53.wp Tryd.prog (RetQ [.t 2, .t 3] R) (init args) σ) : ACalls Tryd.prog 20 args σ R := acalls_of Tryd.func20 c20_ok hl h

/-! 21: tabular/deci.Int -/
def c21_0 : ACode := .ops [
    ⟨(some 2), none, .q (.mv (.v (.int .i64 0))), []⟩,
    ⟨(some 3), none, .q (.mv (.v (.bool false))), []⟩]
def c21_1 : ACode := .ops [
    ⟨(some 7), none, .q (.mv (.t 0)), []⟩,
    ⟨(some 8), none, .q (.conv .u64 (.t 7)), []⟩,
    ⟨(some 4), none, .q (.mv (.t 8)), []⟩]
def c21_2 : ACode := .ops [
    ⟨(some 9), none, .q (.mv (.t 0)), []⟩,
    ⟨(some 10), none, .q (.bin .lss (.t 9) (.v (.int .i64 0))), []⟩]
def c21_3 : ACode := .ops [
    ⟨(some 11), none, .q (.mv (.t 4)), []⟩,
    ⟨(some 12), none, .q (.un .neg (.t 11)), []⟩,
    ⟨(some 4), none, .q (.mv (.t 12)), []⟩]
def c21_4 : ACode := .cond (.t 10) c21_3 .skip
def c21_5 : ACode := .seq c21_2 c21_4
def c21_6 : ACode := .ops [
    ⟨(some 14), none, .q (.mv (.t 4)), []⟩,
    ⟨(some 15), none, .e (.call 43 [(.t 14), (.v (.int .u64 10000))]), []⟩,
    ⟨(some 13), none, .q (.mv (.t 15)), []⟩,
    ⟨(some 16), none, .q (.ext 0 (.t 13)), []⟩,
    ⟨(some 17), none, .q (.ext 1 (.t 13)), []⟩,
    ⟨(some 5), none, .q (.mv (.t 16)), []⟩,
    ⟨(some 6), none, .q (.mv (.t 17)), []⟩]
def c21_7 : ACode := .ops [
    ⟨(some 18), none, .q (.mv (.t 0)), []⟩,
    ⟨(some 19), none, .q (.bin .lss (.t 18) (.v (.int .i64 0))), []⟩,
    ⟨(some 20), none, .q (.mv (.t 5)), []⟩,
    ⟨(some 21), none, .q (.mv (.t 6)), []⟩,
    ⟨(some 22), none, .e (.call 38 [(.t 19), (.t 20), (.t 21)]), []⟩,
    ⟨(some 23), none, .q (.ext 0 (.t 22)), []⟩,
    ⟨(some 24), none, .q (.ext 1 (.t 22)), []⟩,
    ⟨(some 2), none, .q (.mv (.t 23)), []⟩,
    ⟨(some 3), none, .q (.mv (.t 24)), []⟩]
def c21_8 : ACode := .seq c21_7 .ret
def c21_9 : ACode := .seq c21_6 c21_8
def c21_10 : ACode := .seq c21_5 c21_9
def c21_11 : ACode := .seq c21_1 c21_10
def c21_12 : ACode := .seq c21_0 c21_11
@[go_sem] theorem c21_0_wp (P : Program) (Q : APost) (a : AFr) (σ : ASt) : c21_0.wp P Q a σ = ACode.wp P (.ops [
    ⟨(some 2), none, .q (.mv (.v (.int .i64 0))), []⟩,
    ⟨(some 3), none, .q (.mv (.v (.bool false))), []⟩]) Q a σ := id rfl
@[go_sem] theorem c21_1_wp (P : Program) (Q : APost) (a : AFr) (σ : ASt) : c21_1.wp P Q a σ = ACode.wp P (.ops [
    ⟨(some 7), none, .q (.mv (.t 0)), []⟩,
    ⟨(some 8), none, .q (.conv .u64 (.t 7)), []⟩,
    ⟨(some 4), none, .q (.mv (.t 8)), []⟩]) Q a σ := id rfl
@[go_sem] theorem c21_2_wp (P : Program) (Q : APost) (a : AFr) (σ : ASt) : c21_2.wp P Q a σ = ACode.wp P (.ops [
    ⟨(some 9), none, .q (.mv (.t 0)), []⟩,
    ⟨(some 10), none, .q (.bin .lss (.t 9) (.v (.int .i64 0))), []⟩]) Q a σ := id rfl
@[go_sem] theorem c21_3_wp (P : Program) (Q : APost) (a : AFr) (σ : ASt) : c21_3.wp P Q a σ = ACode.wp P (.ops [
    ⟨(some 11), none, .q (.mv (.t 4)), []⟩,
    ⟨(some 12), none, .q (.un .neg (.t 11)), []⟩,
    ⟨(some 4), none, .q (.mv (.t 12)), []⟩]) Q a σ := id rfl
@[go_sem] theorem c21_4_wp (P : Program) (Q : APost) (a : AFr) (σ : ASt) : c21_4.wp P Q a σ = ACode.wp P (.cond (.t 10) c21_3 .skip) Q a σ := id rfl
@[go_sem] theorem c21_5_wp (P : Program) (Q : APost) (a : AFr) (σ : ASt) : c21_5.wp P Q a σ = ACode.wp P (.seq c21_2 c21_4) Q a σ := id rfl
@[go_sem] theorem c21_6_wp (P : Program) (Q : APost) (a : AFr) (σ : ASt) : c21_6.wp P Q a σ = ACode.wp P (.ops [
    ⟨(some 14), none, .q (.mv (.t 4)), []⟩,
    ⟨(some 15), none, .e (.call 43 [(.t 14), (.v (.int .u64 10000))]), []⟩,
    ⟨(some 13), none, .q (.mv (.t 15)), []⟩,
    ⟨(some 16), none, .q (.ext 0 (.t 13)), []⟩,
    ⟨(some 17), none, .q (.ext 1 (.t 13)), []⟩,
    ⟨(some 5), none, .q (.mv (.t 16)), []⟩,
    ⟨(some 6), none, .q (.mv (.t 17)), []⟩]) Q a σ := id rfl
@[go_sem] theorem c21_7_wp (P : Program) (Q : APost) (a : AFr) (σ : ASt) : c21_7.wp P Q a σ = ACode.wp P (.ops [
    ⟨(some 18), none, .q (.mv (.t 0)), []⟩,
    ⟨(some 19), none, .q (.bin .lss (.t 18) (.v (.int .i64 0))), []⟩,
    ⟨(some 20), none, .q (.mv (.t 5)), []⟩,
    ⟨(some 21), none, .q (.mv (.t 6)), []⟩,
    ⟨(some 22), none, .e (.call 38 [(.t 19), (.t 20), (.t 21)]), []⟩,
    ⟨(some 23), none, .q (.ext 0 (.t 22)), []⟩,
    ⟨(some 24), none, .q (.ext 1 (.t 22)), []⟩,
    ⟨(some 2), none, .q (.mv (.t 23)), []⟩,
    ⟨(some 3), none, .q (.mv (.t 24)), []⟩]) Q a σ := id rfl
@[go_sem] theorem c21_8_wp (P : Program) (Q : APost) (a : AFr) (σ : ASt) : c21_8.wp P Q a σ = ACode.wp P (.seq c21_7 .ret) Q a σ := id rfl
@[go_sem] theorem c21_9_wp (P : Program) (Q : APost) (a : AFr) (σ : ASt) : c21_9.wp P Q a σ = ACode.wp P (.seq c21_6 c21_8) Q a σ := id rfl
@[go_sem] theorem c21_10_wp (P : Program) (Q : APost) (a : AFr) (σ : ASt) : c21_10.wp P Q a σ = ACode.wp P (.seq c21_5 c21_9) Q a σ := id rfl
@[go_sem] theorem c21_11_wp (P : Program) (Q : APost) (a : AFr) (σ : ASt) : c21_11.wp P Q a σ = ACode.wp P (.seq c21_1 c21_10) Q a σ := id rfl
@[go_sem] theorem c21_12_wp (P : Program) (Q : APost) (a : AFr) (σ : ASt) : c21_12.wp P Q a σ = ACode.wp P (.seq c21_0 c21_11) Q a σ := id rfl
def c21 : AFn := ⟨25, [.t 2, .t 3], c21_12⟩
set_option maxRecDepth 100000 in
theorem c21_ok : compF Tryd.prog Tryd.f21 = some c21 := by kernel_rfl
theorem a21 {args : List AV} {σ : ASt} {R : AV → ASt → Prop} (hl : args.length ≤ 25) (h : c21_12.wp Tryd.prog (RetQ [.t 2, .t 3] R) (init args) σ) : ACalls Tryd.prog 21 args σ R := acalls_of Tryd.func21 c21_ok hl h

/-! 23: (tabular/deci.Dec).Fixed -/
def c23_0 : ACode := .ops [
    ⟨(some 4), none, .q (.mv (.v (.str []))), []⟩,
    ⟨(some 5), none, .q (.mv (.v (.bool false))), []⟩]
def c23_1 : ACode := .ops [
    ⟨(some 10), none, .q (.mv (.t 1)), []⟩,
    ⟨(some 11), none, .q (.bin .lss (.t 10) (.v (.int .i64 0))), []⟩,
    ⟨(some 12), none, .q (.mv (.t 11)), []⟩,
    ⟨(some 13), (some (12, false)), .q (.mv (.t 1)), []⟩,
    ⟨(some 14), (some (12, false)), .q (.bin .gtr (.t 13) (.v (.int .i64 4))), []⟩,
    ⟨(some 15), none, .q (.pick (.t 12) (.v (.bool true)) (.t 14)), []⟩]
def c23_2 : ACode := .ops [
    ⟨(some 4), none, .q (.mv (.v (.str []))), []⟩,
    ⟨(some 5), none, .q (.mv (.v (.bool false))), []⟩]
def c23_3 : ACode := .seq c23_2 .ret
def c23_4 : ACode := .cond (.t 15) c23_3 .skip
def c23_5 : ACode := .seq c23_1 c23_4
def c23_6 : ACode := .ops [
    ⟨(some 17), none, .q (.mv (.t 0)), []⟩,
    ⟨(some 18), none, .q (.mv (.t 1)), []⟩,
    ⟨(some 19), none, .e (.call 13 [(.t 17), (.t 18)]), []⟩,
    ⟨(some 16), none, .q (.mv (.t 19)), []⟩,
    ⟨(some 20), none, .q (.ext 0 (.t 16)), []⟩,
    ⟨(some 21), none, .q (.ext 1 (.t 16)), []⟩,
    ⟨(some 6), none, .q (.mv (.t 20)), []⟩,
    ⟨(some 7), none, .q (.mv (.t 21)), []⟩]
def c23_7 : ACode := .ops [
    ⟨(some 22), none, .q (.mv (.t 7)), []⟩,
    ⟨(some 23), none, .q (.un .not (.t 22)), []⟩]
def c23_8 : ACode := .ops [
    ⟨(some 4), none, .q (.mv (.v (.str []))), []⟩,
    ⟨(some 5), none, .q (.mv (.v (.bool false))), []⟩]
def c23_9 : ACode := .seq c23_8 .ret
def c23_10 : ACode := .cond (.t 23) c23_9 .skip
def c23_11 : ACode := .seq c23_7 c23_10
def c23_12 : ACode := .ops [
    ⟨(some 24), none, .q (.mv (.t 6)), []⟩,
    ⟨(some 25), none, .e (.call 39 [(.t 24)]), []⟩,
    ⟨(some 8), none, .q (.mv (.t 25)), []⟩]
def c23_13 : ACode := .ops [
    ⟨(some 26), none, .q (.mv (.t 8)), []⟩,
    ⟨(some 27), none, .q (.bin .quo (.t 26) (.v (.int .u64 10000))), []⟩,
    ⟨(some 28), none, .e (.call 40 [(.t 27), (.v (.int .i64 10))]), []⟩,
    ⟨(some 9), none, .q (.mv (.t 28)), []⟩]
def c23_14 : ACode := .ops [
    ⟨(some 29), none, .q (.mv (.t 1)), []⟩,
    ⟨(some 30), none, .q (.bin .gtr (.t 29) (.v (.int .i64 0))), []⟩]
def c23_15 : ACode := .ops [
    ⟨(some 31), none, .q (.mv (.t 9)), []⟩,
    ⟨(some 32), none, .q (.mv (.t 8)), []⟩,
    ⟨(some 33), none, .q (.bin .rem (.t 32) (.v (.int .u64 10000))), []⟩,
    ⟨(some 34), none, .q (.bin .add (.v (.int .u64 10000)) (.t 33)), []⟩,
    ⟨(some 35), none, .e (.call 40 [(.t 34), (.v (.int .i64 10))]), []⟩,
    ⟨(some 36), none, .q (.mv (.t 1)), []⟩,
    ⟨(some 37), none, .q (.bin .add (.v (.int .i64 1)) (.t 36)), []⟩,
    ⟨(some 38), none, .q (.sls (true, 0) (.t 35) (.v (.int .i64 1)) (.t 37)), []⟩,
    ⟨(some 39), none, .q (.bin .add (.v (.str [46])) (.t 38)), []⟩,
    ⟨(some 40), none, .q (.bin .add (.t 31) (.t 39)), []⟩,
    ⟨(some 9), none, .q (.mv (.t 40)), []⟩]
def c23_16 : ACode := .cond (.t 30) c23_15 .skip
def c23_17 : ACode := .seq c23_14 c23_16
def c23_18 : ACode := .ops [
    ⟨(some 41), none, .q (.mv (.t 6)), []⟩,
    ⟨(some 42), none, .q (.bin .lss (.t 41) (.v (.int .i64 0))), []⟩]
def c23_19 : ACode := .ops [
    ⟨(some 43), none, .q (.mv (.t 9)), []⟩,
    ⟨(some 44), none, .q (.bin .add (.v (.str [45])) (.t 43)), []⟩,
    ⟨(some 9), none, .q (.mv (.t 44)), []⟩]
def c23_20 : ACode := .cond (.t 42) c23_19 .skip
def c23_21 : ACode := .seq c23_18 c23_20
def c23_22 : ACode := .ops [
    ⟨(some 45), none, .q (.mv (.t 9)), []⟩,
    ⟨(some 4), none, .q (.mv (.t 45)), []⟩,
    ⟨(some 5), none, .q (.mv (.v (.bool true))), []⟩]
def c23_23 : ACode := .seq c23_22 .ret
def c23_24 : ACode := .seq c23_21 c23_23
def c23_25 : ACode := .seq c23_17 c23_24
def c23_26 : ACode := .seq c23_13 c23_25
def c23_27 : ACode := .seq c23_12 c23_26
def c23_28 : ACode := .seq c23_11 c23_27
def c23_29 : ACode := .seq c23_6 c23_28
def c23_30 : ACode := .seq c23_5 c23_29
def c23_31 : ACode := .seq c23_0 c23_30
@[go_sem] theorem c23_0_wp (P : Program) (Q : APost) (a : AFr) (σ : ASt) : c23_0.wp P Q a σ = ACode.wp P (.ops [
    ⟨(some 4), none, .q (.mv (.v (.str []))), []⟩,
    ⟨(some 5), none, .q (.mv (.v (.bool false))), []⟩]) Q a σ := id rfl
@[go_sem] theorem c23_1_wp (P : Program) (Q : APost) (a : AFr) (σ : ASt) : c23_1.wp P Q a σ = ACode.wp P (.ops [
    ⟨(some 10), none, .q (.mv (.t 1)), []⟩,
    ⟨(some 11), none, .q (.bin .lss (.t 10) (.v (.int .i64 0))), []⟩,
    ⟨(some 12), none, .q (.mv (.t 11)), []⟩,
    ⟨(some 13), (some (12, false)), .q (.mv (.t 1)), []⟩,
    ⟨(some 14), (some (12, false)), .q (.bin .gtr (.t 13) (.v (.int .i64 4))), []⟩,
    ⟨(some 15), none, .q (.pick (.t 12) (.v (.bool true)) (.t 14)), []⟩]) Q a σ := id rfl
@[go_sem] theorem c23_2_wp (P : Program) (Q : APost) (a : AFr) (σ : ASt) : c23_2.wp P Q a σ = ACode.wp P (.ops [
    ⟨(some 4), none, .q (.mv (.v (.str []))), []⟩,
    ⟨(some 5), none, .q (.mv (.v (.bool false))), []⟩]) Q a σ := id rfl
@[go_sem] theorem c23_3_wp (P : Program) (Q : APost) (a : AFr) (σ : ASt) : c23_3.wp P Q a σ = ACode.wp P (.seq c23_2 .ret) Q a σ := id rfl
@[go_sem] theorem c23_4_wp (P : Program) (Q : APost) (a : AFr) (σ : ASt) : c23_4.wp P Q a σ = ACode.wp P (.cond (.t 15) c23_3 .skip) Q a σ := id rfl
@[go_sem] theorem c23_5_wp (P : Program) (Q : APost) (a : AFr) (σ : ASt) : c23_5.wp P Q a σ = ACode.wp P (.seq c23_1 c23_4) Q a σ := id rfl
@[go_sem] theorem c23_6_wp (P : Program) (Q : APost) (a : AFr) (σ : ASt) : c23_6.wp P Q a σ = ACode.wp P (.ops [
    ⟨(some 17), none, .q (.mv (.t 0)), []⟩,
    ⟨(some 18), none, .q (.mv (.t 1)), []⟩,
    ⟨(some 19), none, .e (.call 13 [(.t 17), (.t 18)]), []⟩,
    ⟨(some 16), none, .q (.mv (.t 19)), []⟩,
    ⟨(some 20), none, .q (.ext 0 (.t 16)), []⟩,
    ⟨(some 21), none, .q (.ext 1 (.t 16)), []⟩,
    ⟨(some 6), none, .q (.mv (.t 20)), []⟩,
    ⟨(some 7), none, .q (.mv (.t 21)), []⟩]) Q a σ := id rfl
@[go_sem] theorem c23_7_wp (P : Program) (Q : APost) (a : AFr) (σ : ASt) : c23_7.wp P Q a σ = ACode.wp P (.ops [
    ⟨(some 22), none, .q (.mv (.t 7)), []⟩,
    ⟨(some 23), none, .q (.un .not (.t 22)), []⟩]) Q a σ := id rfl
@[go_sem] theorem c23_8_wp (P : Program) (Q : APost) (a : AFr) (σ : ASt) : c23_8.wp P Q a σ = ACode.wp P (.ops [
    ⟨(some 4), none, .q (.mv (.v (.str []))), []⟩,
    ⟨(some 5), none, .q (.mv (.v (.bool false))), []⟩]) Q a σ := id rfl
@[go_sem] theorem c23_9_wp (P : Program) (Q : APost) (a : AFr) (σ : ASt) : c23_9.wp P Q a σ = ACode.wp P (.seq c23_8 .ret) Q a σ := id rfl
@[go_sem] theorem c23_10_wp (P : Program) (Q : APost) (a : AFr) (σ : ASt) : c23_10.wp P Q a σ = ACode.wp P (.cond (.t 23) c23_9 .skip) Q a σ := id rfl
@[go_sem] theorem c23_11_wp (P : Program) (Q : APost) (a : AFr) (σ : ASt) : c23_11.wp P Q a σ = ACode.wp P (.seq c23_7 c23_10) Q a σ := id rfl
@[go_sem] theorem c23_12_wp (P : Program) (Q : APost) (a : AFr) (σ : ASt) : c23_12.wp P Q a σ = ACode.wp P (.ops [
    ⟨(some 24), none, .q (.mv (.t 6)), []⟩,
    ⟨(some 25), none, .e (.call 39 [(.t 24)]), []⟩,
    ⟨(some 8), none, .q (.mv (.t 25)), []⟩]) Q a σ := id rfl
@[go_sem] theorem c23_13_wp (P : Program) (Q : APost) (a : AFr) (σ : ASt) : c23_13.wp P Q a σ = ACode.wp P (.ops [
    ⟨(some 26), none, .q (.mv (.t 8)), []⟩,
    ⟨(some 27), none, .q (.bin .quo (.t 26) (.v (.int .u64 10000))), []⟩,
    ⟨(some 28), none, .e (.call 40 [(.t 27), (.v (.int .i64 10))]), []⟩,
    ⟨(some 9), none, .q (.mv (.t 28)), []⟩]) Q a σ := id rfl
@[go_sem] theorem c23_14_wp (P : Program) (Q : APost) (a : AFr) (σ : ASt) : c23_14.wp P Q a σ = ACode.wp P (.ops [
    ⟨(some 29), none, .q (.mv (.t 1)), []⟩,
    ⟨(some 30), none, .q (.bin .gtr (.t 29) (.v (.int .i64 0))), []⟩]) Q a σ := id rfl
@[go_sem] theorem c23_15_wp (P : Program) (Q : APost) (a : AFr) (σ : ASt) : c23_15.wp P Q a σ = ACode.wp P (.ops [
    ⟨(some 31), none, .q (.mv (.t 9)), []⟩,
    ⟨(some 32), none, .q (.mv (.t 8)), []⟩,
    ⟨(some 33), none, .q (.bin .rem (.t 32) (.v (.int .u64 10000))), []⟩,
    ⟨(some 34), none, .q (.bin .add (.v (.int .u64 10000)) (.t 33)), []⟩,
    ⟨(some 35), none, .e (.call 40 [(.t 34), (.v (.int .i64 10))]), []⟩,
    ⟨(some 36), none, .q (.mv (.t 1)), []⟩,
    ⟨(some 37), none, .q (.bin .add (.v (.int .i64 1)) (.t 36)), []⟩,
    ⟨(some 38), none, .q (.sls (true, 0) (.t 35) (.v (.int .i64 1)) (.t 37)), []⟩,
    ⟨(some 39), none, .q (.bin .add (.v (.str [46])) (.t 38)), []⟩,
    ⟨(some 40), none, .q (.bin .add (.t 31) (.t 39)), []⟩,
    ⟨(some 9), none, .q (.mv (.t 40)), []⟩]) Q a σ := id rfl
@[go_sem] theorem c23_16_wp (P : Program) (Q : APost) (a : AFr) (σ : ASt) : c23_16.wp P Q a σ = ACode.wp P (.cond (.t 30) c23_15 .skip) Q a σ := id rfl
@[go_sem] theorem c23_17_wp (P : Program) (Q : APost) (a : AFr) (σ : ASt) : c23_17.wp P Q a σ = ACode.wp P (.seq c23_14 c23_16) Q a σ := id rfl
@[go_sem] theorem c23_18_wp (P : Program) (Q : APost) (a : AFr) (σ : ASt) : c23_18.wp P Q a σ = ACode.wp P (.ops [
    ⟨(some 41), none, .q (.mv (.t 6)), []⟩,
    ⟨(some 42), none, .q (.bin .lss (.t 41) (.v (.int .i64 0))), []⟩]) Q a σ := id rfl
@[go_sem] theorem c23_19_wp (P : Program) (Q : APost) (a : AFr) (σ : ASt) : c23_19.wp P Q a σ = ACode.wp P (.ops [
    ⟨(some 43), none, .q (.mv (.t 9)), []⟩,
    ⟨(some 44), none, .q (.bin .add (.v (.str [45])) (.t 43)), []⟩,
    ⟨(some 9), none, .q (.mv (.t 44)), []⟩]) Q a σ := id rfl
@[go_sem] theorem c23_20_wp (P : Program) (Q : APost) (a : AFr) (σ : ASt) : c23_20.wp P Q a σ = ACode.wp P (.cond (.t 42) c23_19 .skip) Q a σ := id rfl
@[go_sem] theorem c23_21_wp (P : Program) (Q : APost) (a : AFr) (σ : ASt) : c23_21.wp P Q a σ = ACode.wp P (.seq c23_18 c23_20) Q a σ := id rfl
@[go_sem] theorem c23_22_wp (P : Program) (Q : APost) (a : AFr) (σ : ASt) : c23_22.wp P Q a σ = ACode.wp P (.ops [
    ⟨(some 45), none, .q (.mv (.t 9)), []⟩,
    ⟨(some 4), none, .q (.mv (.t 45)), []⟩,
    ⟨(some 5), none, .q (.mv (.v (.bool true))), []⟩]) Q a σ := id rfl
@[go_sem] theorem c23_23_wp (P : Program) (Q : APost) (a : AFr) (σ : ASt) : c23_23.wp P Q a σ = ACode.wp P (.seq c23_22 .ret) Q a σ := id rfl
@[go_sem] theorem c23_24_wp (P : Program) (Q : APost) (a : AFr) (σ : ASt) : c23_24.wp P Q a σ = ACode.wp P (.seq c23_21 c23_23) Q a σ := id rfl
@[go_sem] theorem c23_25_wp (P : Program) (Q : APost) (a : AFr) (σ : ASt) : c23_25.wp P Q a σ = ACode.wp P (.seq c23_17 c23_24) Q a σ := id rfl
@[go_sem] theorem c23_26_wp (P : Program) (Q : APost) (a : AFr) (σ : ASt) : c23_26.wp P Q a σ = ACode.wp P (.seq c23_13 c23_25) Q a σ := id rfl
@[go_sem] theorem c23_27_wp (P : Program) (Q : APost) (a : AFr) (σ : ASt) : c23_27.wp P Q a σ = ACode.wp P (.seq c23_12 c23_26) Q a σ := id rfl
@[go_sem] theorem c23_28_wp (P : Program) (Q : APost) (a : AFr) (σ : ASt) : c23_28.wp P Q a σ = ACode.wp P (.seq c23_11 c23_27) Q a σ := id rfl
@[go_sem] theorem c23_29_wp (P : Program) (Q : APost) (a : AFr) (σ : ASt) : c23_29.wp P Q a σ = ACode.wp P (.seq c23_6 c23_28) Q a σ := id rfl
@[go_sem] theorem c23_30_wp (P : Program) (Q : APost) (a : AFr) (σ : ASt) : c23_30.wp P Q a σ = ACode.wp P (.seq c23_5 c23_29) Q a σ := id rfl
@[go_sem] theorem c23_31_wp (P : Program) (Q : APost) (a : AFr) (σ : ASt) : c23_31.wp P Q a σ = ACode.wp P (.seq c23_0 c23_30) Q a σ := id rfl
def c23 : AFn := ⟨46, [.t 4, .t 5], c23_31⟩
set_option maxRecDepth 100000 in
theorem c23_ok : compF Tryd.prog Tryd.f23 = some c23 := by kernel_rfl
theorem a23 {args : List AV} {σ : ASt} {R : AV → ASt → Prop} (hl : args.length ≤ 46) (h : c23_31.wp Tryd.prog (RetQ [.t 4, .t 5] R) (init args) σ) : ACalls Tryd.prog 23 args σ R := acalls_of Tryd.func23 c23_ok hl h

/-! 24: tabular/tabularref01.Fixed -/
def c24_0 : ACode := .ops [
    ⟨(some 4), none, .q (.mv (.v (.str []))), []⟩,
    ⟨(some 5), none, .q (.mv (.v (.bool false))), []⟩]
def c24_1 : ACode := .ops [
    ⟨(some 10), none, .q (.mv (.t 1)), []⟩,
    ⟨(some 11), none, .q (.bin .lss (.t 10) (.v (.int .i64 0))), []⟩,
    ⟨(some 12), none, .q (.mv (.t 11)), []⟩,
    ⟨(some 13), (some (12, false)), .q (.mv (.t 1)), []⟩,
    ⟨(some 14), (some (12, false)), .q (.bin .gtr (.t 13) (.v (.int .i64 4))), []⟩,
    ⟨(some 15), none, .q (.pick (.t 12) (.v (.bool true)) (.t 14)), []⟩]
def c24_2 : ACode := .ops [
    ⟨(some 4), none, .q (.mv (.v (.str []))), []⟩,
    ⟨(some 5), none, .q (.mv (.v (.bool false))), []⟩]
def c24_3 : ACode := .seq c24_2 .ret
def c24_4 : ACode := .cond (.t 15) c24_3 .skip
def c24_5 : ACode := .seq c24_1 c24_4
def c24_6 : ACode := .ops [
    ⟨(some 17), none, .q (.mv (.t 0)), []⟩,
    ⟨(some 18), none, .q (.mv (.t 1)), []⟩,
    ⟨(some 19), none, .e (.call 26 [(.t 17), (.t 18)]), []⟩,
    ⟨(some 16), none, .q (.mv (.t 19)), []⟩,
    ⟨(some 20), none, .q (.ext 0 (.t 16)), []⟩,
    ⟨(some 21), none, .q (.ext 1 (.t 16)), []⟩,
    ⟨(some 6), none, .q (.mv (.t 20)), []⟩,
    ⟨(some 7), none, .q (.mv (.t 21)), []⟩]
def c24_7 : ACode := .ops [
    ⟨(some 22), none, .q (.mv (.t 7)), []⟩,
    ⟨(some 23), none, .q (.un .not (.t 22)), []⟩]
def c24_8 : ACode := .ops [
    ⟨(some 4), none, .q (.mv (.v (.str []))), []⟩,
    ⟨(some 5), none, .q (.mv (.v (.bool false))), []⟩]
def c24_9 : ACode := .seq c24_8 .ret
def c24_10 : ACode := .cond (.t 23) c24_9 .skip
def c24_11 : ACode := .seq c24_7 c24_10
def c24_12 : ACode := .ops [
    ⟨(some 24), none, .q (.mv (.t 6)), []⟩,
    ⟨(some 25), none, .e (.call 29 [(.t 24)]), []⟩,
    ⟨(some 26), none, .e (.call 47 [(.t 25)]), []⟩,
    ⟨(some 8), none, .q (.mv (.t 26)), []⟩]
def c24_13 : ACode := .ops [
    ⟨(some 27), none, .q (.mv (.t 8)), []⟩,
    ⟨(some 28), none, .q (.lenS (.t 27)), []⟩,
    ⟨(some 29), none, .q (.bin .lss (.t 28) (.v (.int .i64 5))), []⟩]
def c24_14 : ACode := .cond (.t 29) .skip (.exit 0)
def c24_15 : ACode := .seq c24_13 c24_14
def c24_16 : ACode := .ops [
    ⟨(some 30), none, .q (.mv (.t 8)), []⟩,
    ⟨(some 31), none, .q (.bin .add (.v (.str [48])) (.t 30)), []⟩,
    ⟨(some 8), none, .q (.mv (.t 31)), []⟩]
def c24_17 : ACode := .block 1 c24_16
def c24_18 : ACode := .seq c24_15 c24_17
def c24_19 : ACode := .loop c24_18
def c24_20 : ACode := .block 0 c24_19
def c24_21 : ACode := .ops [
    ⟨(some 32), none, .q (.mv (.t 8)), []⟩,
    ⟨(some 33), none, .q (.mv (.t 8)), []⟩,
    ⟨(some 34), none, .q (.lenS (.t 33)), []⟩,
    ⟨(some 35), none, .q (.bin .sub (.t 34) (.v (.int .i64 4))), []⟩,
    ⟨(some 36), none, .q (.slto (true, 0) (.t 32) (.t 35)), []⟩,
    ⟨(some 9), none, .q (.mv (.t 36)), []⟩]
def c24_22 : ACode := .ops [
    ⟨(some 37), none, .q (.mv (.t 1)), []⟩,
    ⟨(some 38), none, .q (.bin .gtr (.t 37) (.v (.int .i64 0))), []⟩]
def c24_23 : ACode := .ops [
    ⟨(some 39), none, .q (.mv (.t 9)), []⟩,
    ⟨(some 40), none, .q (.mv (.t 8)), []⟩,
    ⟨(some 41), none, .q (.mv (.t 8)), []⟩,
    ⟨(some 42), none, .q (.lenS (.t 41)), []⟩,
    ⟨(some 43), none, .q (.bin .sub (.t 42) (.v (.int .i64 4))), []⟩,
    ⟨(some 44), none, .q (.mv (.t 8)), []⟩,
    ⟨(some 45), none, .q (.lenS (.t 44)), []⟩,
    ⟨(some 46), none, .q (.bin .sub (.t 45) (.v (.int .i64 4))), []⟩,
    ⟨(some 47), none, .q (.mv (.t 1)), []⟩,
    ⟨(some 48), none, .q (.bin .add (.t 46) (.t 47)), []⟩,
    ⟨(some 49), none, .q (.sls (true, 0) (.t 40) (.t 43) (.t 48)), []⟩,
    ⟨(some 50), none, .q (.bin .add (.v (.str [46])) (.t 49)), []⟩,
    ⟨(some 51), none, .q (.bin .add (.t 39) (.t 50)), []⟩,
    ⟨(some 9), none, .q (.mv (.t 51)), []⟩]
def c24_24 : ACode := .cond (.t 38) c24_23 .skip
def c24_25 : ACode := .seq c24_22 c24_24
def c24_26 : ACode := .ops [
    ⟨(some 52), none, .q (.mv (.t 6)), []⟩,
    ⟨(some 53), none, .q (.bin .lss (.t 52) (.v (.int .i64 0))), []⟩]
def c24_27 : ACode := .ops [
    ⟨(some 54), none, .q (.mv (.t 9)), []⟩,
    ⟨(some 55), none, .q (.bin .add (.v (.str [45])) (.t 54)), []⟩,
    ⟨(some 9), none, .q (.mv (.t 55)), []⟩]
def c24_28 : ACode := .cond (.t 53) c24_27 .skip
def c24_29 : ACode := .seq c24_26 c24_28
def c24_30 : ACode := .ops [
    ⟨(some 56), none, .q (.mv (.t 9)), []⟩,
    ⟨(some 4), none, .q (.mv (.t 56)), []⟩,
    ⟨(some 5), none, .q (.mv (.v (.bool true))), []⟩]
def c24_31 : ACode := .seq c24_30 .ret
def c24_32 : ACode := .seq c24_29 c24_31
def c24_33 : ACode := .seq c24_25 c24_32
def c24_34 : ACode := .seq c24_21 c24_33
def c24_35 : ACode := .seq c24_20 c24_34
def c24_36 : ACode := .seq c24_12 c24_35
def c24_37 : ACode := .seq c24_11 c24_36
def c24_38 : ACode := .seq c24_6 c24_37
def c24_39 : ACode := .seq c24_5 c24_38
def c24_40 : ACode := .seq c24_0 c24_39
@[go_sem] theorem c24_0_wp (P : Program) (Q : APost) (a : AFr) (σ : ASt) : c24_0.wp P Q a σ = ACode.wp P (.ops [
    ⟨(some 4), none, .q (.mv (.v (.str []))), []⟩,
    ⟨(some 5), none, .q (.mv (.v (.bool false))), []⟩]) Q a σ := id rfl
@[go_sem] theorem c24_1_wp (P : Program) (Q : APost) (a : AFr) (σ : ASt) : c24_1.wp P Q a σ = ACode.wp P (.ops [
    ⟨(some 10), none, .q (.mv (.t 1)), []⟩,
    ⟨(some 11), none, .q (.bin .lss (.t 10) (.v (.int .i64 0))), []⟩,
    ⟨(some 12), none, .q (.mv (.t 11)), []⟩,
    ⟨(some 13), (some (12, false)), .q (.mv (.t 1)), []⟩,
    ⟨(some 14), (some (12, false)), .q (.bin .gtr (.t 13) (.v (.int .i64 4))), []⟩,
    ⟨(some 15), none, .q (.pick (.t 12) (.v (.bool true)) (.t 14)), []⟩]) Q a σ := id rfl
@[go_sem] theorem c24_2_wp (P : Program) (Q : APost) (a : AFr) (σ : ASt) : c24_2.wp P Q a σ = ACode.wp P (.ops [
    ⟨(some 4), none, .q (.mv (.v (.str []))), []⟩,
    ⟨(some 5), none, .q (.mv (.v (.bool false))), []⟩]) Q a σ := id rfl
@[go_sem] theorem c24_3_wp (P : Program) (Q : APost) (a : AFr) (σ : ASt) : c24_3.wp P Q a σ = ACode.wp P (.seq c24_2 .ret) Q a σ := id rfl
@[go_sem] theorem c24_4_wp (P : Program) (Q : APost) (a : AFr) (σ : ASt) : c24_4.wp P Q a σ = ACode.wp P (.cond (.t 15) c24_3 .skip) Q a σ := id rfl
@[go_sem] theorem c24_5_wp (P : Program) (Q : APost) (a : AFr) (σ : ASt) : c24_5.wp P Q a σ = ACode.wp P (.seq c24_1 c24_4) Q a σ := id rfl
@[go_sem] theorem c24_6_wp (P : Program) (Q : APost) (a : AFr) (σ : ASt) : c24_6.wp P Q a σ = ACode.wp P (.ops [
    ⟨(some 17), none, .q (.mv (.t 0)), []⟩,
    ⟨(some 18), none, .q (.mv (.t 1)), []⟩,
    ⟨(some 19), none, .e (.call 26 [(.t 17), (.t 18)]), []⟩,
    ⟨(some 16), none, .q (.mv (.t 19)), []⟩,
    ⟨(some 20), none, .q (.ext 0 (.t 16)), []⟩,
    ⟨(some 21), none, .q (.ext 1 (.t 16)), []⟩,
    ⟨(some 6), none, .q (.mv (.t 20)), []⟩,
    ⟨(some 7), none, .q (.mv (.t 21)), []⟩]) Q a σ := id rfl
@[go_sem] theorem c24_7_wp (P : Program) (Q : APost) (a : AFr) (σ : ASt) : c24_7.wp P Q a σ = ACode.wp P (.ops [
    ⟨(some 22), none, .q (.mv (.t 7)), []⟩,
    ⟨(some 23), none, .q (.un .not (.t 22)), []⟩]) Q a σ := id rfl
@[go_sem] theorem c24_8_wp (P : Program) (Q : APost) (a : AFr) (σ : ASt) : c24_8.wp P Q a σ = ACode.wp P (.ops [
    ⟨(some 4), none, .q (.mv (.v (.str []))), []⟩,
    ⟨(some 5), none, .q (.mv (.v (.bool false))), []⟩]) Q a σ := id rfl
@[go_sem] theorem c24_9_wp (P : Program) (Q : APost) (a : AFr) (σ : ASt) : c24_9.wp P Q a σ = ACode.wp P (.seq c24_8 .ret) Q a σ := id rfl
@[go_sem] theorem c24_10_wp (P : Program) (Q : APost) (a : AFr) (σ : ASt) : c24_10.wp P Q a σ = ACode.wp P (.cond (.t 23) c24_9 .skip) Q a σ := id rfl
@[go_sem] theorem c24_11_wp (P : Program) (Q : APost) (a : AFr) (σ : ASt) : c24_11.wp P Q a σ = ACode.wp P (.seq c24_7 c24_10) Q a σ := id rfl
@[go_sem] theorem c24_12_wp (P : Program) (Q : APost) (a : AFr) (σ : ASt) : c24_12.wp P Q a σ = ACode.wp P (.ops [
    ⟨(some 24), none, .q (.mv (.t 6)), []⟩,
    ⟨(some 25), none, .e (.call 29 [(.t 24)]), []⟩,
    ⟨(some 26), none, .e (.call 47 [(.t 25)]), []⟩,
    ⟨(some 8), none, .q (.mv (.t 26)), []⟩]) Q a σ := id rfl
@[go_sem] theorem c24_13_wp (P : Program) (Q : APost) (a : AFr) (σ : ASt) : c24_13.wp P Q a σ = ACode.wp P (.ops [
    ⟨(some 27), none, .q (.mv (.t 8)), []⟩,
    ⟨(some 28), none, .q (.lenS (.t 27)), []⟩,
    ⟨(some 29), none, .q (.bin .lss (.t 28) (.v (.int .i64 5))), []⟩]) Q a σ := id rfl
@[go_sem] theorem c24_14_wp (P : Program) (Q : APost) (a : AFr) (σ : ASt) : c24_14.wp P Q a σ = ACode.wp P (.cond (.t 29) .skip (.exit 0)) Q a σ := id rfl
@[go_sem] theorem c24_15_wp (P : Program) (Q : APost) (a : AFr) (σ : ASt) : c24_15.wp P Q a σ = ACode.wp P (.seq c24_13 c24_14) Q a σ := id rfl
@[go_sem] theorem c24_16_wp (P : Program) (Q : APost) (a : AFr) (σ : ASt) : c24_16.wp P Q a σ = ACode.wp P (.ops [
    ⟨(some 30), none, .q (.mv (.t 8)), []⟩,
    ⟨(some 31), none, .q (.bin .add (.v (.str [48])) (.t 30)), []⟩,
    ⟨(some 8), none, .q (.mv (.t 31)), []⟩]) Q a σ := id rfl
@[go_sem] theorem c24_17_wp (P : Program) (Q : APost) (a : AFr) (σ : ASt) : c24_17.wp P Q a σ = ACode.wp P (.block 1 c24_16) Q a σ := id rfl
@[go_sem] theorem c24_18_wp (P : Program) (Q : APost) (a : AFr) (σ : ASt) : c24_18.wp P Q a σ = ACode.wp P (.seq c24_15 c24_17) Q a σ := id rfl
@[go_sem] theorem c24_19_wp (P : Program) (Q : APost) (a : AFr) (σ : ASt) : c24_19.wp P Q a σ = ACode.wp P (.loop c24_18) Q a σ := id rfl
@[go_sem] theorem c24_20_wp (P : Program) (Q : APost) (a : AFr) (σ : ASt) : c24_20.wp P Q a σ = ACode.wp P (.block 0 c24_19) Q a σ := id rfl
@[go_sem] theorem c24_21_wp (P : Program) (Q : APost) (a : AFr) (σ : ASt) : c24_21.wp P Q a σ = ACode.wp P (.ops [
    ⟨(some 32), none, .q (.mv (.t 8)), []⟩,
    ⟨(some 33), none, .q (.mv (.t 8)), []⟩,
    ⟨(some 34), none, .q (.lenS (.t 33)), []⟩,
    ⟨(some 35), none, .q (.bin .sub (.t 34) (.v (.int .i64 4))), []⟩,
    ⟨(some 36), none, .q (.slto (true, 0) (.t 32) (.t 35)), []⟩,
    ⟨(some 9), none, .q (.mv (.t 36)), []⟩]) Q a σ := id rfl
@[go_sem] theorem c24_22_wp (P : Program) (Q : APost) (a : AFr) (σ : ASt) : c24_22.wp P Q a σ = ACode.wp P (.ops [
    ⟨(some 37), none, .q (.mv (.t 1)), []⟩,
    ⟨(some 38), none, .q (.bin .gtr (.t 37) (.v (.int .i64 0))), []⟩]) Q a σ := id rfl
@[go_sem] theorem c24_23_wp (P : Program) (Q : APost) (a : AFr) (σ : ASt) : c24_23.wp P Q a σ = ACode.wp P (.ops [
    ⟨(some 39), none, .q (.mv (.t 9)), []⟩,
    ⟨(some 40), none, .q (.mv (.t 8)), []⟩,
    ⟨(some 41), none, .q (.mv (.t 8)), []⟩,
    ⟨(some 42), none, .q (.lenS (.t 41)), []⟩,
    ⟨(some 43), none, .q (.bin .sub (.t 42) (.v (.int .i64 4))), []⟩,
    ⟨(some 44), none, .q (.mv (.t 8)), []⟩,
    ⟨(some 45), none, .q (.lenS (.t 44)), []⟩,
    ⟨(some 46), none, .q (.bin .sub (.t 45) (.v (.int .i64 4))), []⟩,
    ⟨(some 47), none, .q (.mv (.t 1)), []⟩,
    ⟨(some 48), none, .q (.bin .add (.t 46) (.t 47)), []⟩,
    ⟨(some 49), none, .q (.sls (true, 0) (.t 40) (.t 43) (.t 48)), []⟩,
    ⟨(some 50), none, .q (.bin .add (.v (.str [46])) (.t 49)), []⟩,
    ⟨(some 51), none, .q (.bin .add (.t 39) (.t 50)), []⟩,
    ⟨(some 9), none, .q (.mv (.t 51)), []⟩]) Q a σ := id rfl
@[go_sem] theorem c24_24_wp (P : Program) (Q : APost) (a : AFr) (σ : ASt) : c24_24.wp P Q a σ = ACode.wp P (.cond (.t 38) c24_23 .skip) Q a σ := id rfl
@[go_sem] theorem c24_25_wp (P : Program) (Q : APost) (a : AFr) (σ : ASt) : c24_25.wp P Q a σ = ACode.wp P (.seq c24_22 c24_24) Q a σ := id rfl
@[go_sem] theorem c24_26_wp (P : Program) (Q : APost) (a : AFr) (σ : ASt) : c24_26.wp P Q a σ = ACode.wp P (.ops [
    ⟨(some 52), none, .q (.mv (.t 6)), []⟩,
    ⟨(some 53), none, .q (.bin .lss (.t 52) (.v (.int .i64 0))), []⟩]) Q a σ := id rfl
@[go_sem] theorem c24_27_wp (P : Program) (Q : APost) (a : AFr) (σ : ASt) : c24_27.wp P Q a σ = ACode.wp P (.ops [
    ⟨(some 54), none, .q (.mv (.t 9)), []⟩,
    ⟨(some 55), none, .q (.bin .add (.v (.str [45])) (.t 54)), []⟩,
    ⟨(some 9), none, .q (.mv (.t 55)), []⟩]) Q a σ := id rfl
@[go_sem] theorem c24_28_wp (P : Program) (Q : APost) (a : AFr) (σ : ASt) : c24_28.wp P Q a σ = ACode.wp P (.cond (.t 53) c24_27 .skip) Q a σ := id rfl
@[go_sem] theorem c24_29_wp (P : Program) (Q : APost) (a : AFr) (σ : ASt) : c24_29.wp P Q a σ = ACode.wp P (.seq c24_26 c24_28) Q a σ := id rfl
@[go_sem] theorem c24_30_wp (P : Program) (Q : APost) (a : AFr) (σ : ASt) : c24_30.wp P Q a σ = ACode.wp P (.ops [
    ⟨(some 56), none, .q (.mv (.t 9)), []⟩,
    ⟨(some 4), none, .q (.mv (.t 56)), []⟩,
    ⟨(some 5), none, .q (.mv (.v (.bool true))), []⟩]) Q a σ := id rfl
@[go_sem] theorem c24_31_wp (P : Program) (Q : APost) (a : AFr) (σ : ASt) : c24_31.wp P Q a σ = ACode.wp P (.seq c24_30 .ret) Q a σ := id rfl
@[go_sem] theorem c24_32_wp (P : Program) (Q : APost) (a : AFr) (σ : ASt) : c24_32.wp P Q a σ = ACode.wp P (.seq c24_29 c24_31) Q a σ := id rfl
@[go_sem] theorem c24_33_wp (P : Program) (Q : APost) (a : AFr) (σ : ASt) : c24_33.wp P Q a σ = ACode.wp P (.seq c24_25 c24_32) Q a σ := id rfl
@[go_sem] theorem c24_34_wp (P : Program) (Q : APost) (a : AFr) (σ : ASt) : c24_34.wp P Q a σ = ACode.wp P (.seq c24_21 c24_33) Q a σ := id rfl
@[go_sem] theorem c24_35_wp (P : Program) (Q : APost) (a : AFr) (σ : ASt) : c24_35.wp P Q a σ = ACode.wp P (.seq c24_20 c24_34) Q a σ := id rfl
@[go_sem] theorem c24_36_wp (P : Program) (Q : APost) (a : AFr) (σ : ASt) : c24_36.wp P Q a σ = ACode.wp P (.seq c24_12 c24_35) Q a σ := id rfl
@[go_sem] theorem c24_37_wp (P : Program) (Q : APost) (a : AFr) (σ : ASt) : c24_37.wp P Q a σ = ACode.wp P (.seq c24_11 c24_36) Q a σ := id rfl
@[go_sem] theorem c24_38_wp (P : Program) (Q : APost) (a : AFr) (σ : ASt) : c24_38.wp P Q a σ = ACode.wp P (.seq c24_6 c24_37) Q a σ := id rfl
@[go_sem] theorem c24_39_wp (P : Program) (Q : APost) (a : AFr) (σ : ASt) : c24_39.wp P Q a σ = ACode.wp P (.seq c24_5 c24_38) Q a σ := id rfl
@[go_sem] theorem c24_40_wp (P : Program) (Q : APost) (a : AFr) (σ : ASt) : c24_40.wp P Q a σ = ACode.wp P (.seq c24_0 c24_39) Q a σ := id rfl
def c24 : AFn := ⟨57, [.t 4, .t 5], c24_40⟩
set_option maxRecDepth 100000 in
theorem c24_ok : compF Tryd.prog Tryd.f24 = some c24 := by kernel_rfl
theorem a24 {args : List AV} {σ : ASt} {R : AV → ASt → Prop} (hl : args.length ≤ 57) (h : c24_40.wp Tryd.prog (RetQ [.t 4, .t 5] R) (init args) σ) : ACalls Tryd.prog 24 args σ R := acalls_of Tryd.func24 c24_ok hl h

/-! 25: tabular/tabularref01.Text -/
def c25_0 : ACode := .ops [
    ⟨(some 2), none, .q (.mv (.v (.str []))), []⟩]
def c25_1 : ACode := .ops [
    ⟨(some 6), none, .q (.mv (.t 0)), []⟩,
    ⟨(some 7), none, .e (.call 29 [(.t 6)]), []⟩,
    ⟨(some 8), none, .e (.call 47 [(.t 7)]), []⟩,
    ⟨(some 3), none, .q (.mv (.t 8)), []⟩]
def c25_2 : ACode := .ops [
    ⟨(some 9), none, .q (.mv (.t 3)), []⟩,
    ⟨(some 10), none, .q (.lenS (.t 9)), []⟩,
    ⟨(some 11), none, .q (.bin .lss (.t 10) (.v (.int .i64 5))), []⟩]
def c25_3 : ACode := .cond (.t 11) .skip (.exit 0)
def c25_4 : ACode := .seq c25_2 c25_3
def c25_5 : ACode := .ops [
    ⟨(some 12), none, .q (.mv (.t 3)), []⟩,
    ⟨(some 13), none, .q (.bin .add (.v (.str [48])) (.t 12)), []⟩,
    ⟨(some 3), none, .q (.mv (.t 13)), []⟩]
def c25_6 : ACode := .block 1 c25_5
def c25_7 : ACode := .seq c25_4 c25_6
def c25_8 : ACode := .loop c25_7
def c25_9 : ACode := .block 0 c25_8
def c25_10 : ACode := .ops [
    ⟨(some 14), none, .q (.mv (.t 3)), []⟩,
    ⟨(some 15), none, .q (.mv (.t 3)), []⟩,
    ⟨(some 16), none, .q (.lenS (.t 15)), []⟩,
    ⟨(some 17), none, .q (.bin .sub (.t 16) (.v (.int .i64 4))), []⟩,
    ⟨(some 18), none, .q (.slto (true, 0) (.t 14) (.t 17)), []⟩,
    ⟨(some 19), none, .q (.mv (.t 3)), []⟩,
    ⟨(some 20), none, .q (.mv (.t 3)), []⟩,
    ⟨(some 21), none, .q (.lenS (.t 20)), []⟩,
    ⟨(some 22), none, .q (.bin .sub (.t 21) (.v (.int .i64 4))), []⟩,
    ⟨(some 23), none, .q (.slfrom (true, 0) (.t 19) (.t 22)), []⟩,
    ⟨(some 4), none, .q (.mv (.t 18)), []⟩,
    ⟨(some 5), none, .q (.mv (.t 23)), []⟩]
def c25_11 : ACode := .ops [
    ⟨(some 24), none, .q (.mv (.t 5)), []⟩,
    ⟨(some 25), none, .q (.lenS (.t 24)), []⟩,
    ⟨(some 26), none, .q (.bin .gtr (.t 25) (.v (.int .i64 0))), []⟩,
    ⟨(some 27), none, .q (.mv (.t 26)), []⟩,
    ⟨(some 28), (some (27, true)), .q (.mv (.t 5)), []⟩,
    ⟨(some 29), (some (27, true)), .q (.mv (.t 5)), []⟩,
    ⟨(some 30), (some (27, true)), .q (.lenS (.t 29)), []⟩,
    ⟨(some 31), (some (27, true)), .q (.bin .sub (.t 30) (.v (.int .i64 1))), []⟩,
    ⟨(some 32), (some (27, true)), .q (.idx (.t 28) (.t 31)), []⟩,
    ⟨(some 33), (some (27, true)), .q (.bin .eql (.t 32) (.v (.int .u8 48))), []⟩,
    ⟨(some 34), none, .q (.pick (.t 27) (.t 33) (.v (.bool false))), []⟩]
def c25_12 : ACode := .cond (.t 34) .skip (.exit 2)
def c25_13 : ACode := .seq c25_11 c25_12
def c25_14 : ACode := .ops [
    ⟨(some 35), none, .q (.mv (.t 5)), []⟩,
    ⟨(some 36), none, .q (.mv (.t 5)), []⟩,
    ⟨(some 37), none, .q (.lenS (.t 36)), []⟩,
    ⟨(some 38), none, .q (.bin .sub (.t 37) (.v (.int .i64 1))), []⟩,
    ⟨(some 39), none, .q (.slto (true, 0) (.t 35) (.t 38)), []⟩,
    ⟨(some 5), none, .q (.mv (.t 39)), []⟩]
def c25_15 : ACode := .block 3 c25_14
def c25_16 : ACode := .seq c25_13 c25_15
def c25_17 : ACode := .loop c25_16
def c25_18 : ACode := .block 2 c25_17
def c25_19 : ACode := .ops [
    ⟨(some 40), none, .q (.mv (.t 5)), []⟩,
    ⟨(some 41), none, .q (.lenS (.t 40)), []⟩,
    ⟨(some 42), none, .q (.bin .gtr (.t 41) (.v (.int .i64 0))), []⟩]
def c25_20 : ACode := .ops [
    ⟨(some 43), none, .q (.mv (.t 4)), []⟩,
    ⟨(some 44), none, .q (.mv (.t 5)), []⟩,
    ⟨(some 45), none, .q (.bin .add (.v (.str [46])) (.t 44)), []⟩,
    ⟨(some 46), none, .q (.bin .add (.t 43) (.t 45)), []⟩,
    ⟨(some 4), none, .q (.mv (.t 46)), []⟩]
def c25_21 : ACode := .cond (.t 42) c25_20 .skip
def c25_22 : ACode := .seq c25_19 c25_21
def c25_23 : ACode := .ops [
    ⟨(some 47), none, .q (.mv (.t 0)), []⟩,
    ⟨(some 48), none, .q (.bin .lss (.t 47) (.v (.int .i64 0))), []⟩]
def c25_24 : ACode := .ops [
    ⟨(some 49), none, .q (.mv (.t 4)), []⟩,
    ⟨(some 50), none, .q (.bin .add (.v (.str [45])) (.t 49)), []⟩,
    ⟨(some 2), none, .q (.mv (.t 50)), []⟩]
def c25_25 : ACode := .seq c25_24 .ret
def c25_26 : ACode := .cond (.t 48) c25_25 .skip
def c25_27 : ACode := .seq c25_23 c25_26
def c25_28 : ACode := .ops [
    ⟨(some 51), none, .q (.mv (.t 4)), []⟩,
    ⟨(some 2), none, .q (.mv (.t 51)), []⟩]
def c25_29 : ACode := .seq c25_28 .ret
def c25_30 : ACode := .seq c25_27 c25_29
def c25_31 : ACode := .seq c25_22 c25_30
def c25_32 : ACode := .seq c25_18 c25_31
def c25_33 : ACode := .seq c25_10 c25_32
def c25_34 : ACode := .seq c25_9 c25_33
def c25_35 : ACode := .seq c25_1 c25_34
def c25_36 : ACode := .seq c25_0 c25_35
@[go_sem] theorem c25_0_wp (P : Program) (Q : APost) (a : AFr) (σ : ASt) : c25_0.wp P Q a σ = ACode.wp P (.ops [
    ⟨(some 2), none, .q (.mv (.v (.str []))), []⟩]) Q a σ := id rfl
@[go_sem] theorem c25_1_wp (P : Program) (Q : APost) (a : AFr) (σ : ASt) : c25_1.wp P Q a σ = ACode.wp P (.ops [
    ⟨(some 6), none, .q (.mv (.t 0)), []⟩,
    ⟨(some 7), none, .e (.call 29 [(.t 6)]), []⟩,
    ⟨(some 8), none, .e (.call 47 [(.t 7)]), []⟩,
    ⟨(some 3), none, .q (.mv (.t 8)), []⟩]) Q a σ := id rfl
@[go_sem] theorem c25_2_wp (P : Program) (Q : APost) (a : AFr) (σ : ASt) : c25_2.wp P Q a σ = ACode.wp P (.ops [
    ⟨(some 9), none, .q (.mv (.t 3)), []⟩,
    ⟨(some 10), none, .q (.lenS (.t 9)), []⟩,
    ⟨(some 11), none, .q (.bin .lss (.t 10) (.v (.int .i64 5))), []⟩]) Q a σ := id rfl
@[go_sem] theorem c25_3_wp (P : Program) (Q : APost) (a : AFr) (σ : ASt) : c25_3.wp P Q a σ = ACode.wp P (.cond (.t 11) .skip (.exit 0)) Q a σ := id rfl
@[go_sem] theorem c25_4_wp (P : Program) (Q : APost) (a : AFr) (σ : ASt) : c25_4.wp P Q a σ = ACode.wp P (.seq c25_2 c25_3) Q a σ := id rfl
@[go_sem] theorem c25_5_wp (P : Program) (Q : APost) (a : AFr) (σ : ASt) : c25_5.wp P Q a σ = ACode.wp P (.ops [
    ⟨(some 12), none, .q (.mv (.t 3)), []⟩,
    ⟨(some 13), none, .q (.bin .add (.v (.str [48])) (.t 12)), []⟩,
    ⟨(some 3), none, .q (.mv (.t 13)), []⟩]) Q a σ := id rfl
@[go_sem] theorem c25_6_wp (P : Program) (Q : APost) (a : AFr) (σ : ASt) : c25_6.wp P Q a σ = ACode.wp P (.block 1 c25_5) Q a σ := id rfl
@[go_sem] theorem c25_7_wp (P : Program) (Q : APost) (a : AFr) (σ : ASt) : c25_7.wp P Q a σ = ACode.wp P (.seq c25_4 c25_6) Q a σ := id rfl
@[go_sem] theorem c25_8_wp (P : Program) (Q : APost) (a : AFr) (σ : ASt) : c25_8.wp P Q a σ = ACode.wp P (.loop c25_7) Q a σ := id rfl
@[go_sem] theorem c25_9_wp (P : Program) (Q : APost) (a : AFr) (σ : ASt) : c25_9.wp P Q a σ = ACode.wp P (.block 0 c25_8) Q a σ := id rfl
@[go_sem] theorem c25_10_wp (P : Program) (Q : APost) (a : AFr) (σ : ASt) : c25_10.wp P Q a σ = ACode.wp P (.ops [
    ⟨(some 14), none, .q (.mv (.t 3)), []⟩,
    ⟨(some 15), none, .q (.mv (.t 3)), []⟩,
    ⟨(some 16), none, .q (.lenS (.t 15)), []⟩,
    ⟨(some 17), none, .q (.bin .sub (.t 16) (.v (.int .i64 4))), []⟩,
    ⟨(some 18), none, .q (.slto (true, 0) (.t 14) (.t 17)), []⟩,
    ⟨(some 19), none, .q (.mv (.t 3)), []⟩,
    ⟨(some 20), none, .q (.mv (.t 3)), []⟩,
    ⟨(some 21), none, .q (.lenS (.t 20)), []⟩,
    ⟨(some 22), none, .q (.bin .sub (.t 21) (.v (.int .i64 4))), []⟩,
    ⟨(some 23), none, .q (.slfrom (true, 0) (.t 19) (.t 22)), []⟩,
    ⟨(some 4), none, .q (.mv (.t 18)), []⟩,
    ⟨(some 5), none, .q (.mv (.t 23)), []⟩]) Q a σ := id rfl
@[go_sem] theorem c25_11_wp (P : Program) (Q : APost) (a : AFr) (σ : ASt) : c25_11.wp P Q a σ = ACode.wp P (.ops [
    ⟨(some 24), none, .q (.mv (.t 5)), []⟩,
    ⟨(some 25), none, .q (.lenS (.t 24)), []⟩,
    ⟨(some 26), none, .q (.bin .gtr (.t 25) (.v (.int .i64 0))), []⟩,
    ⟨(some 27), none, .q (.mv (.t 26)), []⟩,
    ⟨(some 28), (some (27, true)), .q (.mv (.t 5)), []⟩,
    ⟨(some 29), (some (27, true)), .q (.mv (.t 5)), []⟩,
    ⟨(some 30), (some (27, true)), .q (.lenS (.t 29)), []⟩,
    ⟨(some 31), (some (27, true)), .q (.bin .sub (.t 30) (.v (.int .i64 1))), []⟩,
    ⟨(some 32), (some (27, true)), .q (.idx (.t 28) (.t 31)), []⟩,
    ⟨(some 33), (some (27, true)), .q (.bin .eql (.t 32) (.v (.int .u8 48))), []⟩,
    ⟨(some 34), none, .q (.pick (.t 27) (.t 33) (.v (.bool false))), []⟩]) Q a σ := id rfl
@[go_sem] theorem c25_12_wp (P : Program) (Q : APost) (a : AFr) (σ : ASt) : c25_12.wp P Q a σ = ACode.wp P (.cond (.t 34) .skip (.exit 2)) Q a σ := id rfl
@[go_sem] theorem c25_13_wp (P : Program) (Q : APost) (a : AFr) (σ : ASt) : c25_13.wp P Q a σ = ACode.wp P (.seq c25_11 c25_12) Q a σ := id rfl
@[go_sem] theorem c25_14_wp (P : Program) (Q : APost) (a : AFr) (σ : ASt) : c25_14.wp P Q a σ = ACode.wp P (.ops [
    ⟨(some 35), none, .q (.mv (.t 5)), []⟩,
    ⟨(some 36), none, .q (.mv (.t 5)), []⟩,
    ⟨(some 37), none, .q (.lenS (.t 36)), []⟩,
    ⟨(some 38), none, .q (.bin .sub (.t 37) (.v (.int .i64 1))), []⟩,
    ⟨(some 39), none, .q (.slto (true, 0) (.t 35) (.t 38)), []⟩,
    ⟨(some 5), none, .q (.mv (.t 39)), []⟩]) Q a σ := id rfl
@[go_sem] theorem c25_15_wp (P : Program) (Q : APost) (a : AFr) (σ : ASt) : c25_15.wp P Q a σ = ACode.wp P (.block 3 c25_14) Q a σ := id rfl
@[go_sem] theorem c25_16_wp (P : Program) (Q : APost) (a : AFr) (σ : ASt) : c25_16.wp P Q a σ = ACode.wp P (.seq c25_13 c25_15) Q a σ := id rfl
@[go_sem] theorem c25_17_wp (P : Program) (Q : APost) (a : AFr) (σ : ASt) : c25_17.wp P Q a σ = ACode.wp P (.loop c25_16) Q a σ := id rfl
@[go_sem] theorem c25_18_wp (P : Program) (Q : APost) (a : AFr) (σ : ASt) : c25_18.wp P Q a σ = ACode.wp P (.block 2 c25_17) Q a σ := id rfl
@[go_sem] theorem c25_19_wp (P : Program) (Q : APost) (a : AFr) (σ : ASt) : c25_19.wp P Q a σ = ACode.wp P (.ops [
    ⟨(some 40), none, .q (.mv (.t 5)), []⟩,
    ⟨(some 41), none, .q (.lenS (.t 40)), []⟩,
    ⟨(some 42), none, .q (.bin .gtr (.t 41) (.v (.int .i64 0))), []⟩]) Q a σ := id rfl
@[go_sem] theorem c25_20_wp (P : Program) (Q : APost) (a : AFr) (σ : ASt) : c25_20.wp P Q a σ = ACode.wp P (.ops [
    ⟨(some 43), none, .q (.mv (.t 4)), []⟩,
    ⟨(some 44), none, .q (.mv (.t 5)), []⟩,
    ⟨(some 45), none, .q (.bin .add (.v (.str [46])) (.t 44)), []⟩,
    ⟨(some 46), none, .q (.bin .add (.t 43) (.t 45)), []⟩,
    ⟨(some 4), none, .q (.mv (.t 46)), []⟩]) Q a σ := id rfl
@[go_sem] theorem c25_21_wp (P : Program) (Q : APost) (a : AFr) (σ : ASt) : c25_21.wp P Q a σ = ACode.wp P (.cond (.t 42) c25_20 .skip) Q a σ := id rfl
@[go_sem] theorem c25_22_wp (P : Program) (Q : APost) (a : AFr) (σ : ASt) : c25_22.wp P Q a σ = ACode.wp P (.seq c25_19 c25_21) Q a σ := id rfl
@[go_sem] theorem c25_23_wp (P : Program) (Q : APost) (a : AFr) (σ : ASt) : c25_23.wp P Q a σ = ACode.wp P (.ops [
    ⟨(some 47), none, .q (.mv (.t 0)), []⟩,
    ⟨(some 48), none, .q (.bin .lss (.t 47) (.v (.int .i64 0))), []⟩]) Q a σ := id rfl
@[go_sem] theorem c25_24_wp (P : Program) (Q : APost) (a : AFr) (σ : ASt) : c25_24.wp P Q a σ = ACode.wp P (.ops [
    ⟨(some 49), none, .q (.mv (.t 4)), []⟩,
    ⟨(some 50), none, .q (.bin .add (.v (.str [45])) (.t 49)), []⟩,
    ⟨(some 2), none, .q (.mv (.t 50)), []⟩]) Q a σ := id rfl
@[go_sem] theorem c25_25_wp (P : Program) (Q : APost) (a : AFr) (σ : ASt) : c25_25.wp P Q a σ = ACode.wp P (.seq c25_24 .ret) Q a σ := id rfl
@[go_sem] theorem c25_26_wp (P : Program) (Q : APost) (a : AFr) (σ : ASt) : c25_26.wp P Q a σ = ACode.wp P (.cond (.t 48) c25_25 .skip) Q a σ := id rfl
@[go_sem] theorem c25_27_wp (P : Program) (Q : APost) (a : AFr) (σ : ASt) : c25_27.wp P Q a σ = ACode.wp P (.seq c25_23 c25_26) Q a σ := id rfl
@[go_sem] theorem c25_28_wp (P : Program) (Q : APost) (a : AFr) (σ : ASt) : c25_28.wp P Q a σ = ACode.wp P (.ops [
    ⟨(some 51), none, .q (.mv (.t 4)), []⟩,
    ⟨(some 2), none, .q (.mv (.t 51)), []⟩]) Q a σ := id rfl
@[go_sem] theorem c25_29_wp (P : Program) (Q : APost) (a : AFr) (σ : ASt) : c25_29.wp P Q a σ = ACode.wp P (.seq c25_28 .ret) Q a σ := id rfl
@[go_sem] theorem c25_30_wp (P : Program) (Q : APost) (a : AFr) (σ : ASt) : c25_30.wp P Q a σ = ACode.wp P (.seq c25_27 c25_29) Q a σ := id rfl
@[go_sem] theorem c25_31_wp (P : Program) (Q : APost) (a : AFr) (σ : ASt) : c25_31.wp P Q a σ = ACode.wp P (.seq c25_22 c25_30) Q a σ := id rfl
@[go_sem] theorem c25_32_wp (P : Program) (Q : APost) (a : AFr) (σ : ASt) : c25_32.wp P Q a σ = ACode.wp P (.seq c25_18 c25_31) Q a σ := id rfl
@[go_sem] theorem c25_33_wp (P : Program) (Q : APost) (a : AFr) (σ : ASt) : c25_33.wp P Q a σ = ACode.wp P (.seq c25_10 c25_32) Q a σ := id rfl
@[go_sem] theorem c25_34_wp (P : Program) (Q : APost) (a : AFr) (σ : ASt) : c25_34.wp P Q a σ = ACode.wp P (.seq c25_9 c25_33) Q a σ := id rfl
@[go_sem] theorem c25_35_wp (P : Program) (Q : APost) (a : AFr) (σ : ASt) : c25_35.wp P Q a σ = ACode.wp P (.seq c25_1 c25_34) Q a σ := id rfl
@[go_sem] theorem c25_36_wp (P : Program) (Q : APost) (a : AFr) (σ : ASt) : c25_36.wp P Q a σ = ACode.wp P (.seq c25_0 c25_35) Q a σ := id rfl
def c25 : AFn := ⟨52, [.t 2], c25_36⟩
set_option maxRecDepth 100000 in
theorem c25_ok : compF Tryd.prog Tryd.f25 = some c25 := by kernel_rfl
theorem a25 {args : List AV} {σ : ASt} {R : AV → ASt → Prop} (hl : args.length ≤ 52) (h : c25_36.wp Tryd.prog (RetQ [.t 2] R) (init args) σ) : ACalls Tryd.prog 25 args σ R := acalls_of Tryd.func25 c25_ok hl h

end Go.A
