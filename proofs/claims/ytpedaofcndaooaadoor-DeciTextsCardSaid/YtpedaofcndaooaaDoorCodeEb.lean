/- The functions, compiled: by program (wip/gencode.py). -/
import Derived.Test.YtpedaofcndaooaaDoorBk
import Derived.Test.YtpedaofcndaooaaDoorProg
import Derived.KernelRfl
namespace Go.A
open Go.Proofs

/-! 4: tabular/tabularlaw01.DeciNear -/
def c4_0 : ACode := .ops [
    ⟨(some 4), none, .q (.mv (.v (.bool false))), []⟩]
def c4_1 : ACode := .ops [
    ⟨(some 12), none, .q (.mv (.t 0)), []⟩,
    ⟨(some 13), none, .e (.call 9 [(.t 12)]), []⟩,
    ⟨(some 14), none, .q (.un .not (.t 13)), []⟩,
    ⟨(some 15), none, .q (.mv (.t 14)), []⟩,
    ⟨(some 16), (some (15, false)), .q (.mv (.t 1)), []⟩,
    ⟨(some 17), (some (15, false)), .q (.bin .lss (.t 16) (.v (.int .i64 0))), []⟩,
    ⟨(some 18), none, .q (.pick (.t 15) (.v (.bool true)) (.t 17)), []⟩,
    ⟨(some 19), none, .q (.mv (.t 18)), []⟩,
    ⟨(some 20), (some (19, false)), .q (.mv (.t 1)), []⟩,
    ⟨(some 21), (some (19, false)), .q (.bin .gtr (.t 20) (.v (.int .i64 4))), []⟩,
    ⟨(some 22), none, .q (.pick (.t 19) (.v (.bool true)) (.t 21)), []⟩]
def c4_2 : ACode := .ops [
    ⟨(some 23), none, .e (.call 10 []), []⟩,
    ⟨(some 4), none, .q (.mv (.t 23)), []⟩]
def c4_3 : ACode := .seq c4_2 .ret
def c4_4 : ACode := .cond (.t 22) c4_3 .skip
def c4_5 : ACode := .seq c4_1 c4_4
def c4_6 : ACode := .ops [
    ⟨(some 25), none, .q (.mv (.t 0)), []⟩,
    ⟨(some 26), none, .q (.mv (.t 1)), []⟩,
    ⟨(some 27), none, .e (.call 13 [(.t 25), (.t 26)]), []⟩,
    ⟨(some 24), none, .q (.mv (.t 27)), []⟩,
    ⟨(some 28), none, .q (.ext 0 (.t 24)), []⟩,
    ⟨(some 29), none, .q (.ext 1 (.t 24)), []⟩,
    ⟨(some 5), none, .q (.mv (.t 28)), []⟩,
    ⟨(some 6), none, .q (.mv (.t 29)), []⟩]
def c4_7 : ACode := .ops [
    ⟨(some 30), none, .q (.mv (.t 6)), []⟩,
    ⟨(some 31), none, .q (.un .not (.t 30)), []⟩]
def c4_8 : ACode := .ops [
    ⟨(some 32), none, .e (.call 10 []), []⟩,
    ⟨(some 4), none, .q (.mv (.t 32)), []⟩]
def c4_9 : ACode := .seq c4_8 .ret
def c4_10 : ACode := .cond (.t 31) c4_9 .skip
def c4_11 : ACode := .seq c4_7 c4_10
def c4_12 : ACode := .ops [
    ⟨(some 7), none, .q (.mv (.v (.int .i64 1))), []⟩]
def c4_13 : ACode := .ops [
    ⟨(some 33), none, .q (.mv (.t 1)), []⟩,
    ⟨(some 8), none, .q (.mv (.t 33)), []⟩]
def c4_14 : ACode := .ops [
    ⟨(some 34), none, .q (.mv (.t 8)), []⟩,
    ⟨(some 35), none, .q (.bin .lss (.t 34) (.v (.int .i64 4))), []⟩]
def c4_15 : ACode := .cond (.t 35) .skip (.exit 0)
def c4_16 : ACode := .seq c4_14 c4_15
def c4_17 : ACode := .ops [
    ⟨(some 38), none, .q (.mv (.t 7)), []⟩,
    ⟨(some 39), none, .q (.bin .mul (.t 38) (.v (.int .i64 10))), []⟩,
    ⟨(some 7), none, .q (.mv (.t 39)), []⟩]
def c4_18 : ACode := .block 1 c4_17
def c4_19 : ACode := .ops [
    ⟨(some 36), none, .q (.mv (.t 8)), []⟩,
    ⟨(some 37), none, .q (.bin .add (.t 36) (.v (.int .i64 1))), []⟩,
    ⟨(some 8), none, .q (.mv (.t 37)), []⟩]
def c4_20 : ACode := .seq c4_18 c4_19
def c4_21 : ACode := .seq c4_16 c4_20
def c4_22 : ACode := .loop c4_21
def c4_23 : ACode := .block 0 c4_22
def c4_24 : ACode := .seq c4_13 c4_23
def c4_25 : ACode := .ops [
    ⟨(some 41), none, .q (.mv (.t 5)), []⟩,
    ⟨(some 42), none, .q (.mv (.t 1)), []⟩,
    ⟨(some 43), none, .e (.call 13 [(.t 41), (.t 42)]), []⟩,
    ⟨(some 40), none, .q (.mv (.t 43)), []⟩,
    ⟨(some 44), none, .q (.ext 0 (.t 40)), []⟩,
    ⟨(some 45), none, .q (.ext 1 (.t 40)), []⟩,
    ⟨(some 9), none, .q (.mv (.t 44)), []⟩,
    ⟨(some 10), none, .q (.mv (.t 45)), []⟩]
def c4_26 : ACode := .ops [
    ⟨(some 46), none, .q (.mv (.t 0)), []⟩,
    ⟨(some 47), none, .q (.mv (.t 5)), []⟩,
    ⟨(some 48), none, .q (.bin .sub (.t 46) (.t 47)), []⟩,
    ⟨(some 49), none, .e (.call 14 [(.t 48)]), []⟩,
    ⟨(some 11), none, .q (.mv (.t 49)), []⟩]
def c4_27 : ACode := .ops [
    ⟨(some 50), none, .e (.call 10 []), []⟩,
    ⟨(some 51), none, .q (.mv (.t 50)), []⟩,
    ⟨(some 52), (some (51, true)), .q (.mv (.t 10)), []⟩,
    ⟨(some 53), none, .q (.pick (.t 51) (.t 52) (.v (.bool false))), []⟩,
    ⟨(some 54), none, .q (.mv (.t 53)), []⟩,
    ⟨(some 55), (some (54, true)), .q (.mv (.t 9)), []⟩,
    ⟨(some 56), (some (54, true)), .q (.mv (.t 5)), []⟩,
    ⟨(some 57), (some (54, true)), .q (.bin .eql (.t 55) (.t 56)), []⟩,
    ⟨(some 58), none, .q (.pick (.t 54) (.t 57) (.v (.bool false))), []⟩,
    ⟨(some 59), none, .q (.mv (.t 58)), []⟩,
    ⟨(some 60), (some (59, true)), .q (.mv (.t 11)), []⟩,
    ⟨(some 61), (some (59, true)), .q (.bin .mul (.v (.int .i64 2)) (.t 60)), []⟩,
    ⟨(some 62), (some (59, true)), .q (.mv (.t 7)), []⟩,
    ⟨(some 63), (some (59, true)), .q (.bin .leq (.t 61) (.t 62)), []⟩,
    ⟨(some 64), none, .q (.pick (.t 59) (.t 63) (.v (.bool false))), []⟩,
    ⟨(some 65), none, .q (.mv (.t 64)), []⟩,
    ⟨(some 66), (some (65, true)), .q (.mv (.t 5)), []⟩,
    ⟨(some 67), (some (65, true)), .q (.mv (.t 7)), []⟩,
    ⟨(some 68), (some (65, true)), .q (.bin .rem (.t 66) (.t 67)), []⟩,
    ⟨(some 69), (some (65, true)), .q (.bin .eql (.t 68) (.v (.int .i64 0))), []⟩,
    ⟨(some 70), none, .q (.pick (.t 65) (.t 69) (.v (.bool false))), []⟩,
    ⟨(some 4), none, .q (.mv (.t 70)), []⟩]
def c4_28 : ACode := .seq c4_27 .ret
def c4_29 : ACode := .seq c4_26 c4_28
def c4_30 : ACode := .seq c4_25 c4_29
def c4_31 : ACode := .seq c4_24 c4_30
def c4_32 : ACode := .seq c4_12 c4_31
def c4_33 : ACode := .seq c4_11 c4_32
def c4_34 : ACode := .seq c4_6 c4_33
def c4_35 : ACode := .seq c4_5 c4_34
def c4_36 : ACode := .seq c4_0 c4_35
@[go_sem] theorem c4_0_wp (P : Program) (Q : APost) (a : AFr) (σ : ASt) : c4_0.wp P Q a σ = ACode.wp P (.ops [
    ⟨(some 4), none, .q (.mv (.v (.bool false))), []⟩]) Q a σ := id rfl
@[go_sem] theorem c4_1_wp (P : Program) (Q : APost) (a : AFr) (σ : ASt) : c4_1.wp P Q a σ = ACode.wp P (.ops [
    ⟨(some 12), none, .q (.mv (.t 0)), []⟩,
    ⟨(some 13), none, .e (.call 9 [(.t 12)]), []⟩,
    ⟨(some 14), none, .q (.un .not (.t 13)), []⟩,
    ⟨(some 15), none, .q (.mv (.t 14)), []⟩,
    ⟨(some 16), (some (15, false)), .q (.mv (.t 1)), []⟩,
    ⟨(some 17), (some (15, false)), .q (.bin .lss (.t 16) (.v (.int .i64 0))), []⟩,
    ⟨(some 18), none, .q (.pick (.t 15) (.v (.bool true)) (.t 17)), []⟩,
    ⟨(some 19), none, .q (.mv (.t 18)), []⟩,
    ⟨(some 20), (some (19, false)), .q (.mv (.t 1)), []⟩,
    ⟨(some 21), (some (19, false)), .q (.bin .gtr (.t 20) (.v (.int .i64 4))), []⟩,
    ⟨(some 22), none, .q (.pick (.t 19) (.v (.bool true)) (.t 21)), []⟩]) Q a σ := id rfl
@[go_sem] theorem c4_2_wp (P : Program) (Q : APost) (a : AFr) (σ : ASt) : c4_2.wp P Q a σ = ACode.wp P (.ops [
    ⟨(some 23), none, .e (.call 10 []), []⟩,
    ⟨(some 4), none, .q (.mv (.t 23)), []⟩]) Q a σ := id rfl
@[go_sem] theorem c4_3_wp (P : Program) (Q : APost) (a : AFr) (σ : ASt) : c4_3.wp P Q a σ = ACode.wp P (.seq c4_2 .ret) Q a σ := id rfl
@[go_sem] theorem c4_4_wp (P : Program) (Q : APost) (a : AFr) (σ : ASt) : c4_4.wp P Q a σ = ACode.wp P (.cond (.t 22) c4_3 .skip) Q a σ := id rfl
@[go_sem] theorem c4_5_wp (P : Program) (Q : APost) (a : AFr) (σ : ASt) : c4_5.wp P Q a σ = ACode.wp P (.seq c4_1 c4_4) Q a σ := id rfl
@[go_sem] theorem c4_6_wp (P : Program) (Q : APost) (a : AFr) (σ : ASt) : c4_6.wp P Q a σ = ACode.wp P (.ops [
    ⟨(some 25), none, .q (.mv (.t 0)), []⟩,
    ⟨(some 26), none, .q (.mv (.t 1)), []⟩,
    ⟨(some 27), none, .e (.call 13 [(.t 25), (.t 26)]), []⟩,
    ⟨(some 24), none, .q (.mv (.t 27)), []⟩,
    ⟨(some 28), none, .q (.ext 0 (.t 24)), []⟩,
    ⟨(some 29), none, .q (.ext 1 (.t 24)), []⟩,
    ⟨(some 5), none, .q (.mv (.t 28)), []⟩,
    ⟨(some 6), none, .q (.mv (.t 29)), []⟩]) Q a σ := id rfl
@[go_sem] theorem c4_7_wp (P : Program) (Q : APost) (a : AFr) (σ : ASt) : c4_7.wp P Q a σ = ACode.wp P (.ops [
    ⟨(some 30), none, .q (.mv (.t 6)), []⟩,
    ⟨(some 31), none, .q (.un .not (.t 30)), []⟩]) Q a σ := id rfl
@[go_sem] theorem c4_8_wp (P : Program) (Q : APost) (a : AFr) (σ : ASt) : c4_8.wp P Q a σ = ACode.wp P (.ops [
    ⟨(some 32), none, .e (.call 10 []), []⟩,
    ⟨(some 4), none, .q (.mv (.t 32)), []⟩]) Q a σ := id rfl
@[go_sem] theorem c4_9_wp (P : Program) (Q : APost) (a : AFr) (σ : ASt) : c4_9.wp P Q a σ = ACode.wp P (.seq c4_8 .ret) Q a σ := id rfl
@[go_sem] theorem c4_10_wp (P : Program) (Q : APost) (a : AFr) (σ : ASt) : c4_10.wp P Q a σ = ACode.wp P (.cond (.t 31) c4_9 .skip) Q a σ := id rfl
@[go_sem] theorem c4_11_wp (P : Program) (Q : APost) (a : AFr) (σ : ASt) : c4_11.wp P Q a σ = ACode.wp P (.seq c4_7 c4_10) Q a σ := id rfl
@[go_sem] theorem c4_12_wp (P : Program) (Q : APost) (a : AFr) (σ : ASt) : c4_12.wp P Q a σ = ACode.wp P (.ops [
    ⟨(some 7), none, .q (.mv (.v (.int .i64 1))), []⟩]) Q a σ := id rfl
@[go_sem] theorem c4_13_wp (P : Program) (Q : APost) (a : AFr) (σ : ASt) : c4_13.wp P Q a σ = ACode.wp P (.ops [
    ⟨(some 33), none, .q (.mv (.t 1)), []⟩,
    ⟨(some 8), none, .q (.mv (.t 33)), []⟩]) Q a σ := id rfl
@[go_sem] theorem c4_14_wp (P : Program) (Q : APost) (a : AFr) (σ : ASt) : c4_14.wp P Q a σ = ACode.wp P (.ops [
    ⟨(some 34), none, .q (.mv (.t 8)), []⟩,
    ⟨(some 35), none, .q (.bin .lss (.t 34) (.v (.int .i64 4))), []⟩]) Q a σ := id rfl
@[go_sem] theorem c4_15_wp (P : Program) (Q : APost) (a : AFr) (σ : ASt) : c4_15.wp P Q a σ = ACode.wp P (.cond (.t 35) .skip (.exit 0)) Q a σ := id rfl
@[go_sem] theorem c4_16_wp (P : Program) (Q : APost) (a : AFr) (σ : ASt) : c4_16.wp P Q a σ = ACode.wp P (.seq c4_14 c4_15) Q a σ := id rfl
@[go_sem] theorem c4_17_wp (P : Program) (Q : APost) (a : AFr) (σ : ASt) : c4_17.wp P Q a σ = ACode.wp P (.ops [
    ⟨(some 38), none, .q (.mv (.t 7)), []⟩,
    ⟨(some 39), none, .q (.bin .mul (.t 38) (.v (.int .i64 10))), []⟩,
    ⟨(some 7), none, .q (.mv (.t 39)), []⟩]) Q a σ := id rfl
@[go_sem] theorem c4_18_wp (P : Program) (Q : APost) (a : AFr) (σ : ASt) : c4_18.wp P Q a σ = ACode.wp P (.block 1 c4_17) Q a σ := id rfl
@[go_sem] theorem c4_19_wp (P : Program) (Q : APost) (a : AFr) (σ : ASt) : c4_19.wp P Q a σ = ACode.wp P (.ops [
    ⟨(some 36), none, .q (.mv (.t 8)), []⟩,
    ⟨(some 37), none, .q (.bin .add (.t 36) (.v (.int .i64 1))), []⟩,
    ⟨(some 8), none, .q (.mv (.t 37)), []⟩]) Q a σ := id rfl
@[go_sem] theorem c4_20_wp (P : Program) (Q : APost) (a : AFr) (σ : ASt) : c4_20.wp P Q a σ = ACode.wp P (.seq c4_18 c4_19) Q a σ := id rfl
@[go_sem] theorem c4_21_wp (P : Program) (Q : APost) (a : AFr) (σ : ASt) : c4_21.wp P Q a σ = ACode.wp P (.seq c4_16 c4_20) Q a σ := id rfl
@[go_sem] theorem c4_22_wp (P : Program) (Q : APost) (a : AFr) (σ : ASt) : c4_22.wp P Q a σ = ACode.wp P (.loop c4_21) Q a σ := id rfl
@[go_sem] theorem c4_23_wp (P : Program) (Q : APost) (a : AFr) (σ : ASt) : c4_23.wp P Q a σ = ACode.wp P (.block 0 c4_22) Q a σ := id rfl
@[go_sem] theorem c4_24_wp (P : Program) (Q : APost) (a : AFr) (σ : ASt) : c4_24.wp P Q a σ = ACode.wp P (.seq c4_13 c4_23) Q a σ := id rfl
@[go_sem] theorem c4_25_wp (P : Program) (Q : APost) (a : AFr) (σ : ASt) : c4_25.wp P Q a σ = ACode.wp P (.ops [
    ⟨(some 41), none, .q (.mv (.t 5)), []⟩,
    ⟨(some 42), none, .q (.mv (.t 1)), []⟩,
    ⟨(some 43), none, .e (.call 13 [(.t 41), (.t 42)]), []⟩,
    ⟨(some 40), none, .q (.mv (.t 43)), []⟩,
    ⟨(some 44), none, .q (.ext 0 (.t 40)), []⟩,
    ⟨(some 45), none, .q (.ext 1 (.t 40)), []⟩,
    ⟨(some 9), none, .q (.mv (.t 44)), []⟩,
    ⟨(some 10), none, .q (.mv (.t 45)), []⟩]) Q a σ := id rfl
@[go_sem] theorem c4_26_wp (P : Program) (Q : APost) (a : AFr) (σ : ASt) : c4_26.wp P Q a σ = ACode.wp P (.ops [
    ⟨(some 46), none, .q (.mv (.t 0)), []⟩,
    ⟨(some 47), none, .q (.mv (.t 5)), []⟩,
    ⟨(some 48), none, .q (.bin .sub (.t 46) (.t 47)), []⟩,
    ⟨(some 49), none, .e (.call 14 [(.t 48)]), []⟩,
    ⟨(some 11), none, .q (.mv (.t 49)), []⟩]) Q a σ := id rfl
@[go_sem] theorem c4_27_wp (P : Program) (Q : APost) (a : AFr) (σ : ASt) : c4_27.wp P Q a σ = ACode.wp P (.ops [
    ⟨(some 50), none, .e (.call 10 []), []⟩,
    ⟨(some 51), none, .q (.mv (.t 50)), []⟩,
    ⟨(some 52), (some (51, true)), .q (.mv (.t 10)), []⟩,
    ⟨(some 53), none, .q (.pick (.t 51) (.t 52) (.v (.bool false))), []⟩,
    ⟨(some 54), none, .q (.mv (.t 53)), []⟩,
    ⟨(some 55), (some (54, true)), .q (.mv (.t 9)), []⟩,
    ⟨(some 56), (some (54, true)), .q (.mv (.t 5)), []⟩,
    ⟨(some 57), (some (54, true)), .q (.bin .eql (.t 55) (.t 56)), []⟩,
    ⟨(some 58), none, .q (.pick (.t 54) (.t 57) (.v (.bool false))), []⟩,
    ⟨(some 59), none, .q (.mv (.t 58)), []⟩,
    ⟨(some 60), (some (59, true)), .q (.mv (.t 11)), []⟩,
    ⟨(some 61), (some (59, true)), .q (.bin .mul (.v (.int .i64 2)) (.t 60)), []⟩,
    ⟨(some 62), (some (59, true)), .q (.mv (.t 7)), []⟩,
    ⟨(some 63), (some (59, true)), .q (.bin .leq (.t 61) (.t 62)), []⟩,
    ⟨(some 64), none, .q (.pick (.t 59) (.t 63) (.v (.bool false))), []⟩,
    ⟨(some 65), none, .q (.mv (.t 64)), []⟩,
    ⟨(some 66), (some (65, true)), .q (.mv (.t 5)), []⟩,
    ⟨(some 67), (some (65, true)), .q (.mv (.t 7)), []⟩,
    ⟨(some 68), (some (65, true)), .q (.bin .rem (.t 66) (.t 67)), []⟩,
    ⟨(some 69), (some (65, true)), .q (.bin .eql (.t 68) (.v (.int .i64 0))), []⟩,
    ⟨(some 70), none, .q (.pick (.t 65) (.t 69) (.v (.bool false))), []⟩,
    ⟨(some 4), none, .q (.mv (.t 70)), []⟩]) Q a σ := id rfl
@[go_sem] theorem c4_28_wp (P : Program) (Q : APost) (a : AFr) (σ : ASt) : c4_28.wp P Q a σ = ACode.wp P (.seq c4_27 .ret) Q a σ := id rfl
@[go_sem] theorem c4_29_wp (P : Program) (Q : APost) (a : AFr) (σ : ASt) : c4_29.wp P Q a σ = ACode.wp P (.seq c4_26 c4_28) Q a σ := id rfl
@[go_sem] theorem c4_30_wp (P : Program) (Q : APost) (a : AFr) (σ : ASt) : c4_30.wp P Q a σ = ACode.wp P (.seq c4_25 c4_29) Q a σ := id rfl
@[go_sem] theorem c4_31_wp (P : Program) (Q : APost) (a : AFr) (σ : ASt) : c4_31.wp P Q a σ = ACode.wp P (.seq c4_24 c4_30) Q a σ := id rfl
@[go_sem] theorem c4_32_wp (P : Program) (Q : APost) (a : AFr) (σ : ASt) : c4_32.wp P Q a σ = ACode.wp P (.seq c4_12 c4_31) Q a σ := id rfl
@[go_sem] theorem c4_33_wp (P : Program) (Q : APost) (a : AFr) (σ : ASt) : c4_33.wp P Q a σ = ACode.wp P (.seq c4_11 c4_32) Q a σ := id rfl
@[go_sem] theorem c4_34_wp (P : Program) (Q : APost) (a : AFr) (σ : ASt) : c4_34.wp P Q a σ = ACode.wp P (.seq c4_6 c4_33) Q a σ := id rfl
@[go_sem] theorem c4_35_wp (P : Program) (Q : APost) (a : AFr) (σ : ASt) : c4_35.wp P Q a σ = ACode.wp P (.seq c4_5 c4_34) Q a σ := id rfl
@[go_sem] theorem c4_36_wp (P : Program) (Q : APost) (a : AFr) (σ : ASt) : c4_36.wp P Q a σ = ACode.wp P (.seq c4_0 c4_35) Q a σ := id rfl
def c4 : AFn := ⟨71, [.t 4], c4_36⟩
set_option maxRecDepth 100000 in
theorem c4_ok : compF Tryd.prog Tryd.f4 = some c4 := by kernel_rfl
theorem a4 {args : List AV} {σ : ASt} {R : AV → ASt → Prop} (hl : args.length ≤ 71) (h : c4_36.wp Tryd.prog (RetQ [.t 4] R) (init args) σ) : ACalls Tryd.prog 4 args σ R := acalls_of Tryd.func4 c4_ok hl h

end Go.A
