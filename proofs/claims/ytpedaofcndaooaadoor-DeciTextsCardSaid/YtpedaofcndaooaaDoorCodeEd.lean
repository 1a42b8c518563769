/- The functions, compiled: by program (wip/gencode.py). -/
import Derived.Test.YtpedaofcndaooaaDoorBk
import Derived.Test.YtpedaofcndaooaaDoorProg
import Derived.KernelRfl
namespace Go.A
open Go.Proofs

/-! 6: tabular/tabularlaw01.DeciParts -/
def c6_0 : ACode := .ops [
    ⟨(some 4), none, .q (.mv (.v (.bool false))), []⟩]
def c6_1 : ACode := .ops [
    ⟨(some 11), none, .q (.mv (.t 0)), []⟩,
    ⟨(some 12), none, .e (.call 9 [(.t 11)]), []⟩,
    ⟨(some 13), none, .q (.un .not (.t 12)), []⟩,
    ⟨(some 14), none, .q (.mv (.t 13)), []⟩,
    ⟨(some 15), (some (14, false)), .q (.mv (.t 1)), []⟩,
    ⟨(some 16), (some (14, false)), .e (.call 9 [(.t 15)]), []⟩,
    ⟨(some 17), (some (14, false)), .q (.un .not (.t 16)), []⟩,
    ⟨(some 18), none, .q (.pick (.t 14) (.v (.bool true)) (.t 17)), []⟩,
    ⟨(some 19), none, .q (.mv (.t 18)), []⟩,
    ⟨(some 20), (some (19, false)), .q (.mv (.t 1)), []⟩,
    ⟨(some 21), (some (19, false)), .q (.bin .leq (.t 20) (.v (.int .i64 0))), []⟩,
    ⟨(some 22), none, .q (.pick (.t 19) (.v (.bool true)) (.t 21)), []⟩]
def c6_2 : ACode := .ops [
    ⟨(some 23), none, .e (.call 10 []), []⟩,
    ⟨(some 4), none, .q (.mv (.t 23)), []⟩]
def c6_3 : ACode := .seq c6_2 .ret
def c6_4 : ACode := .cond (.t 22) c6_3 .skip
def c6_5 : ACode := .seq c6_1 c6_4
def c6_6 : ACode := .ops [
    ⟨(some 25), none, .q (.mv (.t 0)), []⟩,
    ⟨(some 26), none, .q (.mv (.t 1)), []⟩,
    ⟨(some 27), none, .e (.call 16 [(.t 25), (.t 26)]), []⟩,
    ⟨(some 24), none, .q (.mv (.t 27)), []⟩,
    ⟨(some 28), none, .q (.ext 0 (.t 24)), []⟩,
    ⟨(some 29), none, .q (.ext 1 (.t 24)), []⟩,
    ⟨(some 5), none, .q (.mv (.t 28)), []⟩,
    ⟨(some 6), none, .q (.mv (.t 29)), []⟩]
def c6_7 : ACode := .ops [
    ⟨(some 31), none, .q (.mv (.t 0)), []⟩,
    ⟨(some 32), none, .q (.mv (.t 1)), []⟩,
    ⟨(some 33), none, .e (.call 17 [(.t 31), (.t 32)]), []⟩,
    ⟨(some 30), none, .q (.mv (.t 33)), []⟩,
    ⟨(some 34), none, .q (.ext 0 (.t 30)), []⟩,
    ⟨(some 35), none, .q (.ext 1 (.t 30)), []⟩,
    ⟨(some 7), none, .q (.mv (.t 34)), []⟩,
    ⟨(some 8), none, .q (.mv (.t 35)), []⟩]
def c6_8 : ACode := .ops [
    ⟨(some 36), none, .q (.mv (.t 8)), []⟩,
    ⟨(some 37), none, .q (.un .not (.t 36)), []⟩,
    ⟨(some 38), none, .q (.mv (.t 37)), []⟩,
    ⟨(some 39), (some (38, false)), .q (.mv (.t 7)), []⟩,
    ⟨(some 40), (some (38, false)), .q (.bin .lss (.t 39) (.v (.int .i64 0))), []⟩,
    ⟨(some 41), none, .q (.pick (.t 38) (.v (.bool true)) (.t 40)), []⟩,
    ⟨(some 42), none, .q (.mv (.t 41)), []⟩,
    ⟨(some 43), (some (42, false)), .q (.mv (.t 7)), []⟩,
    ⟨(some 44), (some (42, false)), .q (.mv (.t 1)), []⟩,
    ⟨(some 45), (some (42, false)), .q (.bin .geq (.t 43) (.t 44)), []⟩,
    ⟨(some 46), none, .q (.pick (.t 42) (.v (.bool true)) (.t 45)), []⟩]
def c6_9 : ACode := .ops [
    ⟨(some 4), none, .q (.mv (.v (.bool false))), []⟩]
def c6_10 : ACode := .seq c6_9 .ret
def c6_11 : ACode := .cond (.t 46) c6_10 .skip
def c6_12 : ACode := .seq c6_8 c6_11
def c6_13 : ACode := .ops [
    ⟨(some 47), none, .q (.mv (.t 6)), []⟩,
    ⟨(some 48), none, .q (.un .not (.t 47)), []⟩]
def c6_14 : ACode := .ops [
    ⟨(some 49), none, .e (.call 10 []), []⟩,
    ⟨(some 50), none, .q (.mv (.t 49)), []⟩,
    ⟨(some 51), (some (50, true)), .q (.mv (.t 0)), []⟩,
    ⟨(some 52), (some (50, true)), .q (.bin .lss (.t 51) (.v (.int .i64 0))), []⟩,
    ⟨(some 53), none, .q (.pick (.t 50) (.t 52) (.v (.bool false))), []⟩,
    ⟨(some 4), none, .q (.mv (.t 53)), []⟩]
def c6_15 : ACode := .seq c6_14 .ret
def c6_16 : ACode := .cond (.t 48) c6_15 .skip
def c6_17 : ACode := .seq c6_13 c6_16
def c6_18 : ACode := .ops [
    ⟨(some 55), none, .q (.mv (.t 0)), []⟩,
    ⟨(some 56), none, .q (.mv (.t 1)), []⟩,
    ⟨(some 57), none, .e (.call 18 [(.t 55), (.t 56)]), []⟩,
    ⟨(some 54), none, .q (.mv (.t 57)), []⟩,
    ⟨(some 58), none, .q (.ext 0 (.t 54)), []⟩,
    ⟨(some 59), none, .q (.ext 1 (.t 54)), []⟩,
    ⟨(some 9), none, .q (.mv (.t 58)), []⟩,
    ⟨(some 10), none, .q (.mv (.t 59)), []⟩]
def c6_19 : ACode := .ops [
    ⟨(some 60), none, .e (.call 10 []), []⟩,
    ⟨(some 61), none, .q (.mv (.t 60)), []⟩,
    ⟨(some 62), (some (61, true)), .q (.mv (.t 5)), []⟩,
    ⟨(some 63), (some (61, true)), .q (.mv (.t 7)), []⟩,
    ⟨(some 64), (some (61, true)), .q (.bin .add (.t 62) (.t 63)), []⟩,
    ⟨(some 65), (some (61, true)), .q (.mv (.t 0)), []⟩,
    ⟨(some 66), (some (61, true)), .q (.bin .eql (.t 64) (.t 65)), []⟩,
    ⟨(some 67), none, .q (.pick (.t 61) (.t 66) (.v (.bool false))), []⟩,
    ⟨(some 68), none, .q (.mv (.t 67)), []⟩,
    ⟨(some 69), (some (68, true)), .q (.mv (.t 10)), []⟩,
    ⟨(some 70), (some (68, true)), .q (.un .not (.t 69)), []⟩,
    ⟨(some 71), (some (68, true)), .q (.mv (.t 70)), []⟩,
    ⟨(some 72), (some (71, false)), .q (.mv (.t 7)), []⟩,
    ⟨(some 73), (some (71, false)), .q (.bin .eql (.t 72) (.v (.int .i64 0))), []⟩,
    ⟨(some 74), (some (71, false)), .q (.mv (.t 73)), []⟩,
    ⟨(some 75), (some (74, true)), .q (.mv (.t 9)), []⟩,
    ⟨(some 76), (some (74, true)), .q (.mv (.t 0)), []⟩,
    ⟨(some 77), (some (74, true)), .q (.bin .eql (.t 75) (.t 76)), []⟩,
    ⟨(some 78), (some (71, false)), .q (.pick (.t 74) (.t 77) (.v (.bool false))), []⟩,
    ⟨(some 79), (some (68, true)), .q (.pick (.t 71) (.v (.bool true)) (.t 78)), []⟩,
    ⟨(some 80), (some (68, true)), .q (.mv (.t 79)), []⟩,
    ⟨(some 81), (some (80, false)), .q (.mv (.t 7)), []⟩,
    ⟨(some 82), (some (80, false)), .q (.bin .neq (.t 81) (.v (.int .i64 0))), []⟩,
    ⟨(some 83), (some (80, false)), .q (.mv (.t 82)), []⟩,
    ⟨(some 84), (some (83, true)), .q (.mv (.t 9)), []⟩,
    ⟨(some 85), (some (83, true)), .q (.mv (.t 5)), []⟩,
    ⟨(some 86), (some (83, true)), .q (.mv (.t 1)), []⟩,
    ⟨(some 87), (some (83, true)), .q (.bin .add (.t 85) (.t 86)), []⟩,
    ⟨(some 88), (some (83, true)), .q (.bin .eql (.t 84) (.t 87)), []⟩,
    ⟨(some 89), (some (80, false)), .q (.pick (.t 83) (.t 88) (.v (.bool false))), []⟩,
    ⟨(some 90), (some (68, true)), .q (.pick (.t 80) (.v (.bool true)) (.t 89)), []⟩,
    ⟨(some 91), none, .q (.pick (.t 68) (.t 90) (.v (.bool false))), []⟩,
    ⟨(some 4), none, .q (.mv (.t 91)), []⟩]
def c6_20 : ACode := .seq c6_19 .ret
def c6_21 : ACode := .seq c6_18 c6_20
def c6_22 : ACode := .seq c6_17 c6_21
def c6_23 : ACode := .seq c6_12 c6_22
def c6_24 : ACode := .seq c6_7 c6_23
def c6_25 : ACode := .seq c6_6 c6_24
def c6_26 : ACode := .seq c6_5 c6_25
def c6_27 : ACode := .seq c6_0 c6_26
@[go_sem] theorem c6_0_wp (P : Program) (Q : APost) (a : AFr) (σ : ASt) : c6_0.wp P Q a σ = ACode.wp P (.ops [
    ⟨(some 4), none, .q (.mv (.v (.bool false))), []⟩]) Q a σ := id rfl
@[go_sem] theorem c6_1_wp (P : Program) (Q : APost) (a : AFr) (σ : ASt) : c6_1.wp P Q a σ = ACode.wp P (.ops [
    ⟨(some 11), none, .q (.mv (.t 0)), []⟩,
    ⟨(some 12), none, .e (.call 9 [(.t 11)]), []⟩,
    ⟨(some 13), none, .q (.un .not (.t 12)), []⟩,
    ⟨(some 14), none, .q (.mv (.t 13)), []⟩,
    ⟨(some 15), (some (14, false)), .q (.mv (.t 1)), []⟩,
    ⟨(some 16), (some (14, false)), .e (.call 9 [(.t 15)]), []⟩,
    ⟨(some 17), (some (14, false)), .q (.un .not (.t 16)), []⟩,
    ⟨(some 18), none, .q (.pick (.t 14) (.v (.bool true)) (.t 17)), []⟩,
    ⟨(some 19), none, .q (.mv (.t 18)), []⟩,
    ⟨(some 20), (some (19, false)), .q (.mv (.t 1)), []⟩,
    ⟨(some 21), (some (19, false)), .q (.bin .leq (.t 20) (.v (.int .i64 0))), []⟩,
    ⟨(some 22), none, .q (.pick (.t 19) (.v (.bool true)) (.t 21)), []⟩]) Q a σ := id rfl
@[go_sem] theorem c6_2_wp (P : Program) (Q : APost) (a : AFr) (σ : ASt) : c6_2.wp P Q a σ = ACode.wp P (.ops [
    ⟨(some 23), none, .e (.call 10 []), []⟩,
    ⟨(some 4), none, .q (.mv (.t 23)), []⟩]) Q a σ := id rfl
@[go_sem] theorem c6_3_wp (P : Program) (Q : APost) (a : AFr) (σ : ASt) : c6_3.wp P Q a σ = ACode.wp P (.seq c6_2 .ret) Q a σ := id rfl
@[go_sem] theorem c6_4_wp (P : Program) (Q : APost) (a : AFr) (σ : ASt) : c6_4.wp P Q a σ = ACode.wp P (.cond (.t 22) c6_3 .skip) Q a σ := id rfl
@[go_sem] theorem c6_5_wp (P : Program) (Q : APost) (a : AFr) (σ : ASt) : c6_5.wp P Q a σ = ACode.wp P (.seq c6_1 c6_4) Q a σ := id rfl
@[go_sem] theorem c6_6_wp (P : Program) (Q : APost) (a : AFr) (σ : ASt) : c6_6.wp P Q a σ = ACode.wp P (.ops [
    ⟨(some 25), none, .q (.mv (.t 0)), []⟩,
    ⟨(some 26), none, .q (.mv (.t 1)), []⟩,
    ⟨(some 27), none, .e (.call 16 [(.t 25), (.t 26)]), []⟩,
    ⟨(some 24), none, .q (.mv (.t 27)), []⟩,
    ⟨(some 28), none, .q (.ext 0 (.t 24)), []⟩,
    ⟨(some 29), none, .q (.ext 1 (.t 24)), []⟩,
    ⟨(some 5), none, .q (.mv (.t 28)), []⟩,
    ⟨(some 6), none, .q (.mv (.t 29)), []⟩]) Q a σ := id rfl
@[go_sem] theorem c6_7_wp (P : Program) (Q : APost) (a : AFr) (σ : ASt) : c6_7.wp P Q a σ = ACode.wp P (.ops [
    ⟨(some 31), none, .q (.mv (.t 0)), []⟩,
    ⟨(some 32), none, .q (.mv (.t 1)), []⟩,
    ⟨(some 33), none, .e (.call 17 [(.t 31), (.t 32)]), []⟩,
    ⟨(some 30), none, .q (.mv (.t 33)), []⟩,
    ⟨(some 34), none, .q (.ext 0 (.t 30)), []⟩,
    ⟨(some 35), none, .q (.ext 1 (.t 30)), []⟩,
    ⟨(some 7), none, .q (.mv (.t 34)), []⟩,
    ⟨(some 8), none, .q (.mv (.t 35)), []⟩]) Q a σ := id rfl
@[go_sem] theorem c6_8_wp (P : Program) (Q : APost) (a : AFr) (σ : ASt) : c6_8.wp P Q a σ = ACode.wp P (.ops [
    ⟨(some 36), none, .q (.mv (.t 8)), []⟩,
    ⟨(some 37), none, .q (.un .not (.t 36)), []⟩,
    ⟨(some 38), none, .q (.mv (.t 37)), []⟩,
    ⟨(some 39), (some (38, false)), .q (.mv (.t 7)), []⟩,
    ⟨(some 40), (some (38, false)), .q (.bin .lss (.t 39) (.v (.int .i64 0))), []⟩,
    ⟨(some 41), none, .q (.pick (.t 38) (.v (.bool true)) (.t 40)), []⟩,
    ⟨(some 42), none, .q (.mv (.t 41)), []⟩,
    ⟨(some 43), (some (42, false)), .q (.mv (.t 7)), []⟩,
    ⟨(some 44), (some (42, false)), .q (.mv (.t 1)), []⟩,
    ⟨(some 45), (some (42, false)), .q (.bin .geq (.t 43) (.t 44)), []⟩,
    ⟨(some 46), none, .q (.pick (.t 42) (.v (.bool true)) (.t 45)), []⟩]) Q a σ := id rfl
@[go_sem] theorem c6_9_wp (P : Program) (Q : APost) (a : AFr) (σ : ASt) : c6_9.wp P Q a σ = ACode.wp P (.ops [
    ⟨(some 4), none, .q (.mv (.v (.bool false))), []⟩]) Q a σ := id rfl
@[go_sem] theorem c6_10_wp (P : Program) (Q : APost) (a : AFr) (σ : ASt) : c6_10.wp P Q a σ = ACode.wp P (.seq c6_9 .ret) Q a σ := id rfl
@[go_sem] theorem c6_11_wp (P : Program) (Q : APost) (a : AFr) (σ : ASt) : c6_11.wp P Q a σ = ACode.wp P (.cond (.t 46) c6_10 .skip) Q a σ := id rfl
@[go_sem] theorem c6_12_wp (P : Program) (Q : APost) (a : AFr) (σ : ASt) : c6_12.wp P Q a σ = ACode.wp P (.seq c6_8 c6_11) Q a σ := id rfl
@[go_sem] theorem c6_13_wp (P : Program) (Q : APost) (a : AFr) (σ : ASt) : c6_13.wp P Q a σ = ACode.wp P (.ops [
    ⟨(some 47), none, .q (.mv (.t 6)), []⟩,
    ⟨(some 48), none, .q (.un .not (.t 47)), []⟩]) Q a σ := id rfl
@[go_sem] theorem c6_14_wp (P : Program) (Q : APost) (a : AFr) (σ : ASt) : c6_14.wp P Q a σ = ACode.wp P (.ops [
    ⟨(some 49), none, .e (.call 10 []), []⟩,
    ⟨(some 50), none, .q (.mv (.t 49)), []⟩,
    ⟨(some 51), (some (50, true)), .q (.mv (.t 0)), []⟩,
    ⟨(some 52), (some (50, true)), .q (.bin .lss (.t 51) (.v (.int .i64 0))), []⟩,
    ⟨(some 53), none, .q (.pick (.t 50) (.t 52) (.v (.bool false))), []⟩,
    ⟨(some 4), none, .q (.mv (.t 53)), []⟩]) Q a σ := id rfl
@[go_sem] theorem c6_15_wp (P : Program) (Q : APost) (a : AFr) (σ : ASt) : c6_15.wp P Q a σ = ACode.wp P (.seq c6_14 .ret) Q a σ := id rfl
@[go_sem] theorem c6_16_wp (P : Program) (Q : APost) (a : AFr) (σ : ASt) : c6_16.wp P Q a σ = ACode.wp P (.cond (.t 48) c6_15 .skip) Q a σ := id rfl
@[go_sem] theorem c6_17_wp (P : Program) (Q : APost) (a : AFr) (σ : ASt) : c6_17.wp P Q a σ = ACode.wp P (.seq c6_13 c6_16) Q a σ := id rfl
@[go_sem] theorem c6_18_wp (P : Program) (Q : APost) (a : AFr) (σ : ASt) : c6_18.wp P Q a σ = ACode.wp P (.ops [
    ⟨(some 55), none, .q (.mv (.t 0)), []⟩,
    ⟨(some 56), none, .q (.mv (.t 1)), []⟩,
    ⟨(some 57), none, .e (.call 18 [(.t 55), (.t 56)]), []⟩,
    ⟨(some 54), none, .q (.mv (.t 57)), []⟩,
    ⟨(some 58), none, .q (.ext 0 (.t 54)), []⟩,
    ⟨(some 59), none, .q (.ext 1 (.t 54)), []⟩,
    ⟨(some 9), none, .q (.mv (.t 58)), []⟩,
    ⟨(some 10), none, .q (.mv (.t 59)), []⟩]) Q a σ := id rfl
@[go_sem] theorem c6_19_wp (P : Program) (Q : APost) (a : AFr) (σ : ASt) : c6_19.wp P Q a σ = ACode.wp P (.ops [
    ⟨(some 60), none, .e (.call 10 []), []⟩,
    ⟨(some 61), none, .q (.mv (.t 60)), []⟩,
    ⟨(some 62), (some (61, true)), .q (.mv (.t 5)), []⟩,
    ⟨(some 63), (some (61, true)), .q (.mv (.t 7)), []⟩,
    ⟨(some 64), (some (61, true)), .q (.bin .add (.t 62) (.t 63)), []⟩,
    ⟨(some 65), (some (61, true)), .q (.mv (.t 0)), []⟩,
    ⟨(some 66), (some (61, true)), .q (.bin .eql (.t 64) (.t 65)), []⟩,
    ⟨(some 67), none, .q (.pick (.t 61) (.t 66) (.v (.bool false))), []⟩,
    ⟨(some 68), none, .q (.mv (.t 67)), []⟩,
    ⟨(some 69), (some (68, true)), .q (.mv (.t 10)), []⟩,
    ⟨(some 70), (some (68, true)), .q (.un .not (.t 69)), []⟩,
    ⟨(some 71), (some (68, true)), .q (.mv (.t 70)), []⟩,
    ⟨(some 72), (some (71, false)), .q (.mv (.t 7)), []⟩,
    ⟨(some 73), (some (71, false)), .q (.bin .eql (.t 72) (.v (.int .i64 0))), []⟩,
    ⟨(some 74), (some (71, false)), .q (.mv (.t 73)), []⟩,
    ⟨(some 75), (some (74, true)), .q (.mv (.t 9)), []⟩,
    ⟨(some 76), (some (74, true)), .q (.mv (.t 0)), []⟩,
    ⟨(some 77), (some (74, true)), .q (.bin .eql (.t 75) (.t 76)), []⟩,
    ⟨(some 78), (some (71, false)), .q (.pick (.t 74) (.t 77) (.v (.bool false))), []⟩,
    ⟨(some 79), (some (68, true)), .q (.pick (.t 71) (.v (.bool true)) (.t 78)), []⟩,
    ⟨(some 80), (some (68, true)), .q (.mv (.t 79)), []⟩,
    ⟨(some 81), (some (80, false)), .q (.mv (.t 7)), []⟩,
    ⟨(some 82), (some (80, false)), .q (.bin .neq (.t 81) (.v (.int .i64 0))), []⟩,
    ⟨(some 83), (some (80, false)), .q (.mv (.t 82)), []⟩,
    ⟨(some 84), (some (83, true)), .q (.mv (.t 9)), []⟩,
    ⟨(some 85), (some (83, true)), .q (.mv (.t 5)), []⟩,
    ⟨(some 86), (some (83, true)), .q (.mv (.t 1)), []⟩,
    ⟨(some 87), (some (83, true)), .q (.bin .add (.t 85) (.t 86)), []⟩,
    ⟨(some 88), (some (83, true)), .q (.bin .eql (.t 84) (.t 87)), []⟩,
    ⟨(some 89), (some (80, false)), .q (.pick (.t 83) (.t 88) (.v (.bool false))), []⟩,
    ⟨(some 90), (some (68, true)), .q (.pick (.t 80) (.v (.bool true)) (.t 89)), []⟩,
    ⟨(some 91), none, .q (.pick (.t 68) (.t 90) (.v (.bool false))), []⟩,
    ⟨(some 4), none, .q (.mv (.t 91)), []⟩]) Q a σ := id rfl
@[go_sem] theorem c6_20_wp (P : Program) (Q : APost) (a : AFr) (σ : ASt) : c6_20.wp P Q a σ = ACode.wp P (.seq c6_19 .ret) Q a σ := id rfl
@[go_sem] theorem c6_21_wp (P : Program) (Q : APost) (a : AFr) (σ : ASt) : c6_21.wp P Q a σ = ACode.wp P (.seq c6_18 c6_20) Q a σ := id rfl
@[go_sem] theorem c6_22_wp (P : Program) (Q : APost) (a : AFr) (σ : ASt) : c6_22.wp P Q a σ = ACode.wp P (.seq c6_17 c6_21) Q a σ := id rfl
@[go_sem] theorem c6_23_wp (P : Program) (Q : APost) (a : AFr) (σ : ASt) : c6_23.wp P Q a σ = ACode.wp P (.seq c6_12 c6_22) Q a σ := id rfl
@[go_sem] theorem c6_24_wp (P : Program) (Q : APost) (a : AFr) (σ : ASt) : c6_24.wp P Q a σ = ACode.wp P (.seq c6_7 c6_23) Q a σ := id rfl
@[go_sem] theorem c6_25_wp (P : Program) (Q : APost) (a : AFr) (σ : ASt) : c6_25.wp P Q a σ = ACode.wp P (.seq c6_6 c6_24) Q a σ := id rfl
@[go_sem] theorem c6_26_wp (P : Program) (Q : APost) (a : AFr) (σ : ASt) : c6_26.wp P Q a σ = ACode.wp P (.seq c6_5 c6_25) Q a σ := id rfl
@[go_sem] theorem c6_27_wp (P : Program) (Q : APost) (a : AFr) (σ : ASt) : c6_27.wp P Q a σ = ACode.wp P (.seq c6_0 c6_26) Q a σ := id rfl
def c6 : AFn := ⟨92, [.t 4], c6_27⟩
set_option maxRecDepth 100000 in
theorem c6_ok : compF Tryd.prog Tryd.f6 = some c6 := by kernel_rfl
theorem a6 {args : List AV} {σ : ASt} {R : AV → ASt → Prop} (hl : args.length ≤ 92) (h : c6_27.wp Tryd.prog (RetQ [.t 4] R) (init args) σ) : ACalls Tryd.prog 6 args σ R := acalls_of Tryd.func6 c6_ok hl h

/-! 16: tabular/deci.Floor -/
def c16_0 : ACode := .ops [
    ⟨(some 4), none, .q (.mv (.v (.int .i64 0))), []⟩,
    ⟨(some 5), none, .q (.mv (.v (.bool false))), []⟩]
def c16_1 : ACode := .ops [
    ⟨(some 8), none, .q (.mv (.t 1)), []⟩,
    ⟨(some 9), none, .q (.bin .leq (.t 8) (.v (.int .i64 0))), []⟩]
def c16_2 : ACode := .ops [
    ⟨(some 4), none, .q (.mv (.v (.int .i64 0))), []⟩,
    ⟨(some 5), none, .q (.mv (.v (.bool false))), []⟩]
def c16_3 : ACode := .seq c16_2 .ret
def c16_4 : ACode := .cond (.t 9) c16_3 .skip
def c16_5 : ACode := .seq c16_1 c16_4
def c16_6 : ACode := .ops [
    ⟨(some 11), none, .q (.mv (.t 0)), []⟩,
    ⟨(some 12), none, .q (.mv (.t 1)), []⟩,
    ⟨(some 13), none, .e (.call 17 [(.t 11), (.t 12)]), []⟩,
    ⟨(some 10), none, .q (.mv (.t 13)), []⟩,
    ⟨(some 14), none, .q (.ext 0 (.t 10)), []⟩,
    ⟨(some 15), none, .q (.ext 1 (.t 10)), []⟩,
    ⟨(some 6), none, .q (.mv (.t 14)), []⟩,
    ⟨(some 7), none, .q (.mv (.t 15)), []⟩]
def c16_7 : ACode := .ops [
    ⟨(some 16), none, .q (.mv (.t 0)), []⟩,
    ⟨(some 17), none, .q (.mv (.t 6)), []⟩,
    ⟨(some 18), none, .e (.call 44 [(.t 16), (.t 17)]), []⟩,
    ⟨(some 19), none, .q (.ext 0 (.t 18)), []⟩,
    ⟨(some 20), none, .q (.ext 1 (.t 18)), []⟩,
    ⟨(some 4), none, .q (.mv (.t 19)), []⟩,
    ⟨(some 5), none, .q (.mv (.t 20)), []⟩]
def c16_8 : ACode := .seq c16_7 .ret
def c16_9 : ACode := .seq c16_6 c16_8
def c16_10 : ACode := .seq c16_5 c16_9
def c16_11 : ACode := .seq c16_0 c16_10
@[go_sem] theorem c16_0_wp (P : Program) (Q : APost) (a : AFr) (σ : ASt) : c16_0.wp P Q a σ = ACode.wp P (.ops [
    ⟨(some 4), none, .q (.mv (.v (.int .i64 0))), []⟩,
    ⟨(some 5), none, .q (.mv (.v (.bool false))), []⟩]) Q a σ := id rfl
@[go_sem] theorem c16_1_wp (P : Program) (Q : APost) (a : AFr) (σ : ASt) : c16_1.wp P Q a σ = ACode.wp P (.ops [
    ⟨(some 8), none, .q (.mv (.t 1)), []⟩,
    ⟨(some 9), none, .q (.bin .leq (.t 8) (.v (.int .i64 0))), []⟩]) Q a σ := id rfl
@[go_sem] theorem c16_2_wp (P : Program) (Q : APost) (a : AFr) (σ : ASt) : c16_2.wp P Q a σ = ACode.wp P (.ops [
    ⟨(some 4), none, .q (.mv (.v (.int .i64 0))), []⟩,
    ⟨(some 5), none, .q (.mv (.v (.bool false))), []⟩]) Q a σ := id rfl
@[go_sem] theorem c16_3_wp (P : Program) (Q : APost) (a : AFr) (σ : ASt) : c16_3.wp P Q a σ = ACode.wp P (.seq c16_2 .ret) Q a σ := id rfl
@[go_sem] theorem c16_4_wp (P : Program) (Q : APost) (a : AFr) (σ : ASt) : c16_4.wp P Q a σ = ACode.wp P (.cond (.t 9) c16_3 .skip) Q a σ := id rfl
@[go_sem] theorem c16_5_wp (P : Program) (Q : APost) (a : AFr) (σ : ASt) : c16_5.wp P Q a σ = ACode.wp P (.seq c16_1 c16_4) Q a σ := id rfl
@[go_sem] theorem c16_6_wp (P : Program) (Q : APost) (a : AFr) (σ : ASt) : c16_6.wp P Q a σ = ACode.wp P (.ops [
    ⟨(some 11), none, .q (.mv (.t 0)), []⟩,
    ⟨(some 12), none, .q (.mv (.t 1)), []⟩,
    ⟨(some 13), none, .e (.call 17 [(.t 11), (.t 12)]), []⟩,
    ⟨(some 10), none, .q (.mv (.t 13)), []⟩,
    ⟨(some 14), none, .q (.ext 0 (.t 10)), []⟩,
    ⟨(some 15), none, .q (.ext 1 (.t 10)), []⟩,
    ⟨(some 6), none, .q (.mv (.t 14)), []⟩,
    ⟨(some 7), none, .q (.mv (.t 15)), []⟩]) Q a σ := id rfl
@[go_sem] theorem c16_7_wp (P : Program) (Q : APost) (a : AFr) (σ : ASt) : c16_7.wp P Q a σ = ACode.wp P (.ops [
    ⟨(some 16), none, .q (.mv (.t 0)), []⟩,
    ⟨(some 17), none, .q (.mv (.t 6)), []⟩,
    ⟨(some 18), none, .e (.call 44 [(.t 16), (.t 17)]), []⟩,
    ⟨(some 19), none, .q (.ext 0 (.t 18)), []⟩,
    ⟨(some 20), none, .q (.ext 1 (.t 18)), []⟩,
    ⟨(some 4), none, .q (.mv (.t 19)), []⟩,
    ⟨(some 5), none, .q (.mv (.t 20)), []⟩]) Q a σ := id rfl
@[go_sem] theorem c16_8_wp (P : Program) (Q : APost) (a : AFr) (σ : ASt) : c16_8.wp P Q a σ = ACode.wp P (.seq c16_7 .ret) Q a σ := id rfl
@[go_sem] theorem c16_9_wp (P : Program) (Q : APost) (a : AFr) (σ : ASt) : c16_9.wp P Q a σ = ACode.wp P (.seq c16_6 c16_8) Q a σ := id rfl
@[go_sem] theorem c16_10_wp (P : Program) (Q : APost) (a : AFr) (σ : ASt) : c16_10.wp P Q a σ = ACode.wp P (.seq c16_5 c16_9) Q a σ := id rfl
@[go_sem] theorem c16_11_wp (P : Program) (Q : APost) (a : AFr) (σ : ASt) : c16_11.wp P Q a σ = ACode.wp P (.seq c16_0 c16_10) Q a σ := id rfl
def c16 : AFn := ⟨21, [.t 4, .t 5], c16_11⟩
set_option maxRecDepth 100000 in
theorem c16_ok : compF Tryd.prog Tryd.f16 = some c16 := by kernel_rfl
theorem a16 {args : List AV} {σ : ASt} {R : AV → ASt → Prop} (hl : args.length ≤ 21) (h : c16_11.wp Tryd.prog (RetQ [.t 4, .t 5] R) (init args) σ) : ACalls Tryd.prog 16 args σ R := acalls_of Tryd.func16 c16_ok hl h

/-! 18: tabular/deci.Ceil -/
def c18_0 : ACode := .ops [
    ⟨(some 4), none, .q (.mv (.v (.int .i64 0))), []⟩,
    ⟨(some 5), none, .q (.mv (.v (.bool false))), []⟩]
def c18_1 : ACode := .ops [
    ⟨(some 9), none, .q (.mv (.t 0)), []⟩,
    ⟨(some 10), none, .q (.un .neg (.t 9)), []⟩,
    ⟨(some 11), none, .q (.mv (.t 1)), []⟩,
    ⟨(some 12), none, .e (.call 16 [(.t 10), (.t 11)]), []⟩,
    ⟨(some 8), none, .q (.mv (.t 12)), []⟩,
    ⟨(some 13), none, .q (.ext 0 (.t 8)), []⟩,
    ⟨(some 14), none, .q (.ext 1 (.t 8)), []⟩,
    ⟨(some 6), none, .q (.mv (.t 13)), []⟩,
    ⟨(some 7), none, .q (.mv (.t 14)), []⟩]
def c18_2 : ACode := .ops [
    ⟨(some 15), none, .q (.mv (.t 6)), []⟩,
    ⟨(some 16), none, .q (.un .neg (.t 15)), []⟩,
    ⟨(some 17), none, .q (.mv (.t 7)), []⟩,
    ⟨(some 4), none, .q (.mv (.t 16)), []⟩,
    ⟨(some 5), none, .q (.mv (.t 17)), []⟩]
def c18_3 : ACode := .seq c18_2 .ret
def c18_4 : ACode := .seq c18_1 c18_3
def c18_5 : ACode := .seq c18_0 c18_4
@[go_sem] theorem c18_0_wp (P : Program) (Q : APost) (a : AFr) (σ : ASt) : c18_0.wp P Q a σ = ACode.wp P (.ops [
    ⟨(some 4), none, .q (.mv (.v (.int .i64 0))), []⟩,
    ⟨(some 5), none, .q (.mv (.v (.bool false))), []⟩]) Q a σ := id rfl
@[go_sem] theorem c18_1_wp (P : Program) (Q : APost) (a : AFr) (σ : ASt) : c18_1.wp P Q a σ = ACode.wp P (.ops [
    ⟨(some 9), none, .q (.mv (.t 0)), []⟩,
    ⟨(some 10), none, .q (.un .neg (.t 9)), []⟩,
    ⟨(some 11), none, .q (.mv (.t 1)), []⟩,
    ⟨(some 12), none, .e (.call 16 [(.t 10), (.t 11)]), []⟩,
    ⟨(some 8), none, .q (.mv (.t 12)), []⟩,
    ⟨(some 13), none, .q (.ext 0 (.t 8)), []⟩,
    ⟨(some 14), none, .q (.ext 1 (.t 8)), []⟩,
    ⟨(some 6), none, .q (.mv (.t 13)), []⟩,
    ⟨(some 7), none, .q (.mv (.t 14)), []⟩]) Q a σ := id rfl
@[go_sem] theorem c18_2_wp (P : Program) (Q : APost) (a : AFr) (σ : ASt) : c18_2.wp P Q a σ = ACode.wp P (.ops [
    ⟨(some 15), none, .q (.mv (.t 6)), []⟩,
    ⟨(some 16), none, .q (.un .neg (.t 15)), []⟩,
    ⟨(some 17), none, .q (.mv (.t 7)), []⟩,
    ⟨(some 4), none, .q (.mv (.t 16)), []⟩,
    ⟨(some 5), none, .q (.mv (.t 17)), []⟩]) Q a σ := id rfl
@[go_sem] theorem c18_3_wp (P : Program) (Q : APost) (a : AFr) (σ : ASt) : c18_3.wp P Q a σ = ACode.wp P (.seq c18_2 .ret) Q a σ := id rfl
@[go_sem] theorem c18_4_wp (P : Program) (Q : APost) (a : AFr) (σ : ASt) : c18_4.wp P Q a σ = ACode.wp P (.seq c18_1 c18_3) Q a σ := id rfl
@[go_sem] theorem c18_5_wp (P : Program) (Q : APost) (a : AFr) (σ : ASt) : c18_5.wp P Q a σ = ACode.wp P (.seq c18_0 c18_4) Q a σ := id rfl
def c18 : AFn := ⟨18, [.t 4, .t 5], c18_5⟩
set_option maxRecDepth 100000 in
theorem c18_ok : compF Tryd.prog Tryd.f18 = some c18 := by kernel_rfl
theorem a18 {args : List AV} {σ : ASt} {R : AV → ASt → Prop} (hl : args.length ≤ 18) (h : c18_5.wp Tryd.prog (RetQ [.t 4, .t 5] R) (init args) σ) : ACalls Tryd.prog 18 args σ R := acalls_of Tryd.func18 c18_ok hl h

/-! 44: tabular/deci.Sub -/
def c44_0 : ACode := .ops [
    ⟨(some 4), none, .q (.mv (.v (.int .i64 0))), []⟩,
    ⟨(some 5), none, .q (.mv (.v (.bool false))), []⟩]
def c44_1 : ACode := .ops [
    ⟨(some 6), none, .q (.mv (.t 0)), []⟩,
    ⟨(some 7), none, .q (.mv (.t 1)), []⟩,
    ⟨(some 8), none, .q (.bin .sub (.t 6) (.t 7)), []⟩,
    ⟨(some 9), none, .q (.bin .lss (.t 8) (.v (.int .i64 0))), []⟩,
    ⟨(some 10), none, .q (.mv (.t 0)), []⟩,
    ⟨(some 11), none, .q (.mv (.t 1)), []⟩,
    ⟨(some 12), none, .q (.bin .sub (.t 10) (.t 11)), []⟩,
    ⟨(some 13), none, .e (.call 39 [(.t 12)]), []⟩,
    ⟨(some 14), none, .e (.call 38 [(.t 9), (.v (.int .u64 0)), (.t 13)]), []⟩,
    ⟨(some 15), none, .q (.ext 0 (.t 14)), []⟩,
    ⟨(some 16), none, .q (.ext 1 (.t 14)), []⟩,
    ⟨(some 4), none, .q (.mv (.t 15)), []⟩,
    ⟨(some 5), none, .q (.mv (.t 16)), []⟩]
def c44_2 : ACode := .seq c44_1 .ret
def c44_3 : ACode := .seq c44_0 c44_2
@[go_sem] theorem c44_0_wp (P : Program) (Q : APost) (a : AFr) (σ : ASt) : c44_0.wp P Q a σ = ACode.wp P (.ops [
    ⟨(some 4), none, .q (.mv (.v (.int .i64 0))), []⟩,
    ⟨(some 5), none, .q (.mv (.v (.bool false))), []⟩]) Q a σ := id rfl
@[go_sem] theorem c44_1_wp (P : Program) (Q : APost) (a : AFr) (σ : ASt) : c44_1.wp P Q a σ = ACode.wp P (.ops [
    ⟨(some 6), none, .q (.mv (.t 0)), []⟩,
    ⟨(some 7), none, .q (.mv (.t 1)), []⟩,
    ⟨(some 8), none, .q (.bin .sub (.t 6) (.t 7)), []⟩,
    ⟨(some 9), none, .q (.bin .lss (.t 8) (.v (.int .i64 0))), []⟩,
    ⟨(some 10), none, .q (.mv (.t 0)), []⟩,
    ⟨(some 11), none, .q (.mv (.t 1)), []⟩,
    ⟨(some 12), none, .q (.bin .sub (.t 10) (.t 11)), []⟩,
    ⟨(some 13), none, .e (.call 39 [(.t 12)]), []⟩,
    ⟨(some 14), none, .e (.call 38 [(.t 9), (.v (.int .u64 0)), (.t 13)]), []⟩,
    ⟨(some 15), none, .q (.ext 0 (.t 14)), []⟩,
    ⟨(some 16), none, .q (.ext 1 (.t 14)), []⟩,
    ⟨(some 4), none, .q (.mv (.t 15)), []⟩,
    ⟨(some 5), none, .q (.mv (.t 16)), []⟩]) Q a σ := id rfl
@[go_sem] theorem c44_2_wp (P : Program) (Q : APost) (a : AFr) (σ : ASt) : c44_2.wp P Q a σ = ACode.wp P (.seq c44_1 .ret) Q a σ := id rfl
@[go_sem] theorem c44_3_wp (P : Program) (Q : APost) (a : AFr) (σ : ASt) : c44_3.wp P Q a σ = ACode.wp P (.seq c44_0 c44_2) Q a σ := id rfl
def c44 : AFn := ⟨17, [.t 4, .t 5], c44_3⟩
set_option maxRecDepth 100000 in
theorem c44_ok : compF Tryd.prog Tryd.f44 = some c44 := by kernel_rfl
theorem a44 {args : List AV} {σ : ASt} {R : AV → ASt → Prop} (hl : args.length ≤ 17) (h : c44_3.wp Tryd.prog (RetQ [.t 4, .t 5] R) (init args) σ) : ACalls Tryd.prog 44 args σ R := acalls_of Tryd.func44 c44_ok hl h

end Go.A
