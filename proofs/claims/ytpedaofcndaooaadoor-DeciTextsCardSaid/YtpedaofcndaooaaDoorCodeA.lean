/- The functions, compiled: by program (wip/gencode.py). -/
import Derived.Test.YtpedaofcndaooaaDoorBk
import Derived.Test.YtpedaofcndaooaaDoorProg
import Derived.KernelRfl
namespace Go.A
open Go.Proofs

/-! 9: tabular/deci.Good -/
def c9_0 : ACode := .ops [
    ⟨(some 2), none, .q (.mv (.v (.bool false))), []⟩]
def c9_1 : ACode := .ops [
    ⟨(some 3), none, .q (.mv (.t 0)), []⟩,
    ⟨(some 4), none, .q (.bin .geq (.t 3) (.v (.int .i64 (-999999999999999999)))), []⟩,
    ⟨(some 5), none, .q (.mv (.t 4)), []⟩,
    ⟨(some 6), (some (5, true)), .q (.mv (.t 0)), []⟩,
    ⟨(some 7), (some (5, true)), .q (.bin .leq (.t 6) (.v (.int .i64 999999999999999999))), []⟩,
    ⟨(some 8), none, .q (.pick (.t 5) (.t 7) (.v (.bool false))), []⟩,
    ⟨(some 2), none, .q (.mv (.t 8)), []⟩]
def c9_2 : ACode := .seq c9_1 .ret
def c9_3 : ACode := .seq c9_0 c9_2
@[go_sem] theorem c9_0_wp (P : Program) (Q : APost) (a : AFr) (σ : ASt) : c9_0.wp P Q a σ = ACode.wp P (.ops [
    ⟨(some 2), none, .q (.mv (.v (.bool false))), []⟩]) Q a σ := id rfl
@[go_sem] theorem c9_1_wp (P : Program) (Q : APost) (a : AFr) (σ : ASt) : c9_1.wp P Q a σ = ACode.wp P (.ops [
    ⟨(some 3), none, .q (.mv (.t 0)), []⟩,
    ⟨(some 4), none, .q (.bin .geq (.t 3) (.v (.int .i64 (-999999999999999999)))), []⟩,
    ⟨(some 5), none, .q (.mv (.t 4)), []⟩,
    ⟨(some 6), (some (5, true)), .q (.mv (.t 0)), []⟩,
    ⟨(some 7), (some (5, true)), .q (.bin .leq (.t 6) (.v (.int .i64 999999999999999999))), []⟩,
    ⟨(some 8), none, .q (.pick (.t 5) (.t 7) (.v (.bool false))), []⟩,
    ⟨(some 2), none, .q (.mv (.t 8)), []⟩]) Q a σ := id rfl
@[go_sem] theorem c9_2_wp (P : Program) (Q : APost) (a : AFr) (σ : ASt) : c9_2.wp P Q a σ = ACode.wp P (.seq c9_1 .ret) Q a σ := id rfl
@[go_sem] theorem c9_3_wp (P : Program) (Q : APost) (a : AFr) (σ : ASt) : c9_3.wp P Q a σ = ACode.wp P (.seq c9_0 c9_2) Q a σ := id rfl
def c9 : AFn := ⟨9, [.t 2], c9_3⟩
set_option maxRecDepth 100000 in
theorem c9_ok : compF Tryd.prog Tryd.f9 = some c9 := by kernel_rfl
theorem a9 {args : List AV} {σ : ASt} {R : AV → ASt → Prop} (hl : args.length ≤ 9) (h : c9_3.wp Tryd.prog (RetQ [.t 2] R) (init args) σ) : ACalls Tryd.prog 9 args σ R := acalls_of Tryd.func9 c9_ok hl h

/-! 10: tabular/tabularlaw01.awake -/
def c10_0 : ACode := .ops [
    ⟨(some 0), none, .q (.mv (.v (.bool false))), []⟩]
def c10_1 : ACode := .ops [
    ⟨(some 8), none, .e (.call 35 [(.v (.int .i64 20000)), (.v (.int .i64 30000))]), []⟩,
    ⟨(some 7), none, .q (.mv (.t 8)), []⟩,
    ⟨(some 9), none, .q (.ext 0 (.t 7)), []⟩,
    ⟨(some 10), none, .q (.ext 1 (.t 7)), []⟩,
    ⟨(some 1), none, .q (.mv (.t 9)), []⟩,
    ⟨(some 2), none, .q (.mv (.t 10)), []⟩]
def c10_2 : ACode := .ops [
    ⟨(some 12), none, .e (.call 11 [(.v (.str [45, 50, 46, 53]))]), []⟩,
    ⟨(some 11), none, .q (.mv (.t 12)), []⟩,
    ⟨(some 13), none, .q (.ext 0 (.t 11)), []⟩,
    ⟨(some 14), none, .q (.ext 1 (.t 11)), []⟩,
    ⟨(some 3), none, .q (.mv (.t 13)), []⟩,
    ⟨(some 4), none, .q (.mv (.t 14)), []⟩]
def c10_3 : ACode := .ops [
    ⟨(some 16), none, .q (.mv (.t 3)), []⟩,
    ⟨(some 17), none, .e (.call 13 [(.t 16), (.v (.int .i64 0))]), []⟩,
    ⟨(some 15), none, .q (.mv (.t 17)), []⟩,
    ⟨(some 18), none, .q (.ext 0 (.t 15)), []⟩,
    ⟨(some 19), none, .q (.ext 1 (.t 15)), []⟩,
    ⟨(some 5), none, .q (.mv (.t 18)), []⟩,
    ⟨(some 6), none, .q (.mv (.t 19)), []⟩]
def c10_4 : ACode := .ops [
    ⟨(some 20), none, .q (.mv (.t 2)), []⟩,
    ⟨(some 21), none, .q (.mv (.t 20)), []⟩,
    ⟨(some 22), (some (21, true)), .q (.mv (.t 1)), []⟩,
    ⟨(some 23), (some (21, true)), .q (.bin .eql (.t 22) (.v (.int .i64 6667))), []⟩,
    ⟨(some 24), none, .q (.pick (.t 21) (.t 23) (.v (.bool false))), []⟩,
    ⟨(some 25), none, .q (.mv (.t 24)), []⟩,
    ⟨(some 26), (some (25, true)), .q (.mv (.t 4)), []⟩,
    ⟨(some 27), none, .q (.pick (.t 25) (.t 26) (.v (.bool false))), []⟩,
    ⟨(some 28), none, .q (.mv (.t 27)), []⟩,
    ⟨(some 29), (some (28, true)), .q (.mv (.t 3)), []⟩,
    ⟨(some 30), (some (28, true)), .q (.bin .eql (.t 29) (.v (.int .i64 (-25000)))), []⟩,
    ⟨(some 31), none, .q (.pick (.t 28) (.t 30) (.v (.bool false))), []⟩,
    ⟨(some 32), none, .q (.mv (.t 31)), []⟩,
    ⟨(some 33), (some (32, true)), .q (.mv (.t 6)), []⟩,
    ⟨(some 34), none, .q (.pick (.t 32) (.t 33) (.v (.bool false))), []⟩,
    ⟨(some 35), none, .q (.mv (.t 34)), []⟩,
    ⟨(some 36), (some (35, true)), .q (.mv (.t 5)), []⟩,
    ⟨(some 37), (some (35, true)), .q (.bin .eql (.t 36) (.v (.int .i64 (-30000)))), []⟩,
    ⟨(some 38), none, .q (.pick (.t 35) (.t 37) (.v (.bool false))), []⟩,
    ⟨(some 39), none, .q (.mv (.t 38)), []⟩,
    ⟨(some 40), (some (39, true)), .q (.mv (.t 3)), []⟩,
    ⟨(some 41), (some (39, true)), .e (.call 12 [(.t 40)]), []⟩,
    ⟨(some 42), (some (39, true)), .q (.bin .eql (.t 41) (.v (.str [45, 50, 46, 53]))), []⟩,
    ⟨(some 43), none, .q (.pick (.t 39) (.t 42) (.v (.bool false))), []⟩,
    ⟨(some 0), none, .q (.mv (.t 43)), []⟩]
def c10_5 : ACode := .seq c10_4 .ret
def c10_6 : ACode := .seq c10_3 c10_5
def c10_7 : ACode := .seq c10_2 c10_6
def c10_8 : ACode := .seq c10_1 c10_7
def c10_9 : ACode := .seq c10_0 c10_8
@[go_sem] theorem c10_0_wp (P : Program) (Q : APost) (a : AFr) (σ : ASt) : c10_0.wp P Q a σ = ACode.wp P (.ops [
    ⟨(some 0), none, .q (.mv (.v (.bool false))), []⟩]) Q a σ := id rfl
@[go_sem] theorem c10_1_wp (P : Program) (Q : APost) (a : AFr) (σ : ASt) : c10_1.wp P Q a σ = ACode.wp P (.ops [
    ⟨(some 8), none, .e (.call 35 [(.v (.int .i64 20000)), (.v (.int .i64 30000))]), []⟩,
    ⟨(some 7), none, .q (.mv (.t 8)), []⟩,
    ⟨(some 9), none, .q (.ext 0 (.t 7)), []⟩,
    ⟨(some 10), none, .q (.ext 1 (.t 7)), []⟩,
    ⟨(some 1), none, .q (.mv (.t 9)), []⟩,
    ⟨(some 2), none, .q (.mv (.t 10)), []⟩]) Q a σ := id rfl
@[go_sem] theorem c10_2_wp (P : Program) (Q : APost) (a : AFr) (σ : ASt) : c10_2.wp P Q a σ = ACode.wp P (.ops [
    ⟨(some 12), none, .e (.call 11 [(.v (.str [45, 50, 46, 53]))]), []⟩,
    ⟨(some 11), none, .q (.mv (.t 12)), []⟩,
    ⟨(some 13), none, .q (.ext 0 (.t 11)), []⟩,
    ⟨(some 14), none, .q (.ext 1 (.t 11)), []⟩,
    ⟨(some 3), none, .q (.mv (.t 13)), []⟩,
    ⟨(some 4), none, .q (.mv (.t 14)), []⟩]) Q a σ := id rfl
@[go_sem] theorem c10_3_wp (P : Program) (Q : APost) (a : AFr) (σ : ASt) : c10_3.wp P Q a σ = ACode.wp P (.ops [
    ⟨(some 16), none, .q (.mv (.t 3)), []⟩,
    ⟨(some 17), none, .e (.call 13 [(.t 16), (.v (.int .i64 0))]), []⟩,
    ⟨(some 15), none, .q (.mv (.t 17)), []⟩,
    ⟨(some 18), none, .q (.ext 0 (.t 15)), []⟩,
    ⟨(some 19), none, .q (.ext 1 (.t 15)), []⟩,
    ⟨(some 5), none, .q (.mv (.t 18)), []⟩,
    ⟨(some 6), none, .q (.mv (.t 19)), []⟩]) Q a σ := id rfl
@[go_sem] theorem c10_4_wp (P : Program) (Q : APost) (a : AFr) (σ : ASt) : c10_4.wp P Q a σ = ACode.wp P (.ops [
    ⟨(some 20), none, .q (.mv (.t 2)), []⟩,
    ⟨(some 21), none, .q (.mv (.t 20)), []⟩,
    ⟨(some 22), (some (21, true)), .q (.mv (.t 1)), []⟩,
    ⟨(some 23), (some (21, true)), .q (.bin .eql (.t 22) (.v (.int .i64 6667))), []⟩,
    ⟨(some 24), none, .q (.pick (.t 21) (.t 23) (.v (.bool false))), []⟩,
    ⟨(some 25), none, .q (.mv (.t 24)), []⟩,
    ⟨(some 26), (some (25, true)), .q (.mv (.t 4)), []⟩,
    ⟨(some 27), none, .q (.pick (.t 25) (.t 26) (.v (.bool false))), []⟩,
    ⟨(some 28), none, .q (.mv (.t 27)), []⟩,
    ⟨(some 29), (some (28, true)), .q (.mv (.t 3)), []⟩,
    ⟨(some 30), (some (28, true)), .q (.bin .eql (.t 29) (.v (.int .i64 (-25000)))), []⟩,
    ⟨(some 31), none, .q (.pick (.t 28) (.t 30) (.v (.bool false))), []⟩,
    ⟨(some 32), none, .q (.mv (.t 31)), []⟩,
    ⟨(some 33), (some (32, true)), .q (.mv (.t 6)), []⟩,
    ⟨(some 34), none, .q (.pick (.t 32) (.t 33) (.v (.bool false))), []⟩,
    ⟨(some 35), none, .q (.mv (.t 34)), []⟩,
    ⟨(some 36), (some (35, true)), .q (.mv (.t 5)), []⟩,
    ⟨(some 37), (some (35, true)), .q (.bin .eql (.t 36) (.v (.int .i64 (-30000)))), []⟩,
    ⟨(some 38), none, .q (.pick (.t 35) (.t 37) (.v (.bool false))), []⟩,
    ⟨(some 39), none, .q (.mv (.t 38)), []⟩,
    ⟨(some 40), (some (39, true)), .q (.mv (.t 3)), []⟩,
    ⟨(some 41), (some (39, true)), .e (.call 12 [(.t 40)]), []⟩,
    ⟨(some 42), (some (39, true)), .q (.bin .eql (.t 41) (.v (.str [45, 50, 46, 53]))), []⟩,
    ⟨(some 43), none, .q (.pick (.t 39) (.t 42) (.v (.bool false))), []⟩,
    ⟨(some 0), none, .q (.mv (.t 43)), []⟩]) Q a σ := id rfl
@[go_sem] theorem c10_5_wp (P : Program) (Q : APost) (a : AFr) (σ : ASt) : c10_5.wp P Q a σ = ACode.wp P (.seq c10_4 .ret) Q a σ := id rfl
@[go_sem] theorem c10_6_wp (P : Program) (Q : APost) (a : AFr) (σ : ASt) : c10_6.wp P Q a σ = ACode.wp P (.seq c10_3 c10_5) Q a σ := id rfl
@[go_sem] theorem c10_7_wp (P : Program) (Q : APost) (a : AFr) (σ : ASt) : c10_7.wp P Q a σ = ACode.wp P (.seq c10_2 c10_6) Q a σ := id rfl
@[go_sem] theorem c10_8_wp (P : Program) (Q : APost) (a : AFr) (σ : ASt) : c10_8.wp P Q a σ = ACode.wp P (.seq c10_1 c10_7) Q a σ := id rfl
@[go_sem] theorem c10_9_wp (P : Program) (Q : APost) (a : AFr) (σ : ASt) : c10_9.wp P Q a σ = ACode.wp P (.seq c10_0 c10_8) Q a σ := id rfl
def c10 : AFn := ⟨44, [.t 0], c10_9⟩
set_option maxRecDepth 100000 in
theorem c10_ok : compF Tryd.prog Tryd.f10 = some c10 := by kernel_rfl
theorem a10 {args : List AV} {σ : ASt} {R : AV → ASt → Prop} (hl : args.length ≤ 44) (h : c10_9.wp Tryd.prog (RetQ [.t 0] R) (init args) σ) : ACalls Tryd.prog 10 args σ R := acalls_of Tryd.func10 c10_ok hl h

/-! 11: tabular/deci.Parse -/
def c11_0 : ACode := .ops [
    ⟨(some 2), none, .q (.mv (.v (.int .i64 0))), []⟩,
    ⟨(some 3), none, .q (.mv (.v (.bool false))), []⟩]
def c11_1 : ACode := .ops [
    ⟨(some 13), none, .q (.mv (.t 0)), []⟩,
    ⟨(some 14), none, .e (.call 36 [(.t 13), (.v (.str [45]))]), []⟩,
    ⟨(some 12), none, .q (.mv (.t 14)), []⟩,
    ⟨(some 15), none, .q (.ext 0 (.t 12)), []⟩,
    ⟨(some 16), none, .q (.ext 1 (.t 12)), []⟩,
    ⟨(some 4), none, .q (.mv (.t 15)), []⟩,
    ⟨(some 5), none, .q (.mv (.t 16)), []⟩]
def c11_2 : ACode := .ops [
    ⟨(some 18), none, .q (.mv (.t 4)), []⟩,
    ⟨(some 19), none, .e (.call 37 [(.t 18), (.v (.str [46]))]), []⟩,
    ⟨(some 17), none, .q (.mv (.t 19)), []⟩,
    ⟨(some 20), none, .q (.ext 0 (.t 17)), []⟩,
    ⟨(some 21), none, .q (.ext 1 (.t 17)), []⟩,
    ⟨(some 22), none, .q (.ext 2 (.t 17)), []⟩,
    ⟨(some 6), none, .q (.mv (.t 20)), []⟩,
    ⟨(some 7), none, .q (.mv (.t 21)), []⟩,
    ⟨(some 8), none, .q (.mv (.t 22)), []⟩]
def c11_3 : ACode := .ops [
    ⟨(some 23), none, .q (.mv (.t 6)), []⟩,
    ⟨(some 24), none, .q (.bin .eql (.t 23) (.v (.str []))), []⟩,
    ⟨(some 25), none, .q (.mv (.t 24)), []⟩,
    ⟨(some 26), (some (25, false)), .q (.mv (.t 8)), []⟩,
    ⟨(some 27), (some (25, false)), .q (.mv (.t 26)), []⟩,
    ⟨(some 28), (some (27, true)), .q (.mv (.t 7)), []⟩,
    ⟨(some 29), (some (27, true)), .q (.bin .eql (.t 28) (.v (.str []))), []⟩,
    ⟨(some 30), (some (27, true)), .q (.mv (.t 29)), []⟩,
    ⟨(some 31), (some (30, false)), .q (.mv (.t 7)), []⟩,
    ⟨(some 32), (some (30, false)), .q (.lenS (.t 31)), []⟩,
    ⟨(some 33), (some (30, false)), .q (.bin .gtr (.t 32) (.v (.int .i64 4))), []⟩,
    ⟨(some 34), (some (27, true)), .q (.pick (.t 30) (.v (.bool true)) (.t 33)), []⟩,
    ⟨(some 35), (some (25, false)), .q (.pick (.t 27) (.t 34) (.v (.bool false))), []⟩,
    ⟨(some 36), none, .q (.pick (.t 25) (.v (.bool true)) (.t 35)), []⟩]
def c11_4 : ACode := .ops [
    ⟨(some 2), none, .q (.mv (.v (.int .i64 0))), []⟩,
    ⟨(some 3), none, .q (.mv (.v (.bool false))), []⟩]
def c11_5 : ACode := .seq c11_4 .ret
def c11_6 : ACode := .cond (.t 36) c11_5 .skip
def c11_7 : ACode := .seq c11_3 c11_6
def c11_8 : ACode := .ops [
    ⟨(some 9), none, .q (.mv (.v (.int .u64 0))), []⟩]
def c11_9 : ACode := .ops [
    ⟨(some 37), none, .q (.mv (.t 6)), []⟩,
    ⟨(some 38), none, .q (.mv (.t 7)), []⟩,
    ⟨(some 39), none, .q (.bin .add (.t 37) (.t 38)), []⟩,
    ⟨(some 40), none, .q (.mv (.t 7)), []⟩,
    ⟨(some 41), none, .q (.lenS (.t 40)), []⟩,
    ⟨(some 42), none, .q (.slfrom (true, 0) (.v (.str [48, 48, 48, 48])) (.t 41)), []⟩,
    ⟨(some 43), none, .q (.bin .add (.t 39) (.t 42)), []⟩,
    ⟨(some 44), none, .e (.s2b (.t 43)), []⟩,
    ⟨(some 45), none, .q (.len (.t 44)), []⟩,
    ⟨(some 46), none, .q (.mv (.v (.int .i64 0))), []⟩]
def c11_10 : ACode := .ops [
    ⟨(some 47), none, .q (.bin .lss (.t 46) (.t 45)), []⟩]
def c11_11 : ACode := .cond (.t 47) .skip (.exit 0)
def c11_12 : ACode := .ops [
    ⟨(some 48), none, .q (.ia 1 (.t 44) (.t 46)), []⟩,
    ⟨(some 49), none, .q (.ld none (.t 48)), []⟩,
    ⟨(some 11), none, .q (.mv (.t 49)), []⟩]
def c11_13 : ACode := .ops [
    ⟨(some 50), none, .q (.mv (.t 11)), []⟩,
    ⟨(some 51), none, .q (.bin .lss (.t 50) (.v (.int .u8 48))), []⟩,
    ⟨(some 52), none, .q (.mv (.t 51)), []⟩,
    ⟨(some 53), (some (52, false)), .q (.mv (.t 11)), []⟩,
    ⟨(some 54), (some (52, false)), .q (.bin .gtr (.t 53) (.v (.int .u8 57))), []⟩,
    ⟨(some 55), none, .q (.pick (.t 52) (.v (.bool true)) (.t 54)), []⟩,
    ⟨(some 56), none, .q (.mv (.t 55)), []⟩,
    ⟨(some 57), (some (56, false)), .q (.mv (.t 9)), []⟩,
    ⟨(some 58), (some (56, false)), .q (.bin .gtr (.t 57) (.v (.int .u64 99999999999999999))), []⟩,
    ⟨(some 59), none, .q (.pick (.t 56) (.v (.bool true)) (.t 58)), []⟩]
def c11_14 : ACode := .ops [
    ⟨(some 2), none, .q (.mv (.v (.int .i64 0))), []⟩,
    ⟨(some 3), none, .q (.mv (.v (.bool false))), []⟩]
def c11_15 : ACode := .seq c11_14 .ret
def c11_16 : ACode := .cond (.t 59) c11_15 .skip
def c11_17 : ACode := .seq c11_13 c11_16
def c11_18 : ACode := .ops [
    ⟨(some 60), none, .q (.mv (.t 9)), []⟩,
    ⟨(some 61), none, .q (.bin .mul (.v (.int .u64 10)) (.t 60)), []⟩,
    ⟨(some 62), none, .q (.mv (.t 11)), []⟩,
    ⟨(some 63), none, .q (.bin .sub (.t 62) (.v (.int .u8 48))), []⟩,
    ⟨(some 64), none, .q (.conv .u64 (.t 63)), []⟩,
    ⟨(some 65), none, .q (.bin .add (.t 61) (.t 64)), []⟩,
    ⟨(some 9), none, .q (.mv (.t 65)), []⟩]
def c11_19 : ACode := .seq c11_17 c11_18
def c11_20 : ACode := .seq c11_12 c11_19
def c11_21 : ACode := .block 1 c11_20
def c11_22 : ACode := .ops [
    ⟨(some 66), none, .q (.bin .add (.t 46) (.v (.int .i64 1))), []⟩,
    ⟨(some 46), none, .q (.mv (.t 66)), []⟩]
def c11_23 : ACode := .seq c11_21 c11_22
def c11_24 : ACode := .seq c11_11 c11_23
def c11_25 : ACode := .seq c11_10 c11_24
def c11_26 : ACode := .loop c11_25
def c11_27 : ACode := .block 0 c11_26
def c11_28 : ACode := .seq c11_9 c11_27
def c11_29 : ACode := .ops [
    ⟨(some 67), none, .q (.mv (.t 5)), []⟩,
    ⟨(some 68), none, .q (.mv (.t 9)), []⟩,
    ⟨(some 69), none, .e (.call 38 [(.t 67), (.v (.int .u64 0)), (.t 68)]), []⟩,
    ⟨(some 70), none, .q (.ext 0 (.t 69)), []⟩,
    ⟨(some 71), none, .q (.ext 1 (.t 69)), []⟩,
    ⟨(some 2), none, .q (.mv (.t 70)), []⟩,
    ⟨(some 3), none, .q (.mv (.t 71)), []⟩]
def c11_30 : ACode := .seq c11_29 .ret
def c11_31 : ACode := .seq c11_28 c11_30
def c11_32 : ACode := .seq c11_8 c11_31
def c11_33 : ACode := .seq c11_7 c11_32
def c11_34 : ACode := .seq c11_2 c11_33
def c11_35 : ACode := .seq c11_1 c11_34
def c11_36 : ACode := .seq c11_0 c11_35
@[go_sem] theorem c11_0_wp (P : Program) (Q : APost) (a : AFr) (σ : ASt) : c11_0.wp P Q a σ = ACode.wp P (.ops [
    ⟨(some 2), none, .q (.mv (.v (.int .i64 0))), []⟩,
    ⟨(some 3), none, .q (.mv (.v (.bool false))), []⟩]) Q a σ := id rfl
@[go_sem] theorem c11_1_wp (P : Program) (Q : APost) (a : AFr) (σ : ASt) : c11_1.wp P Q a σ = ACode.wp P (.ops [
    ⟨(some 13), none, .q (.mv (.t 0)), []⟩,
    ⟨(some 14), none, .e (.call 36 [(.t 13), (.v (.str [45]))]), []⟩,
    ⟨(some 12), none, .q (.mv (.t 14)), []⟩,
    ⟨(some 15), none, .q (.ext 0 (.t 12)), []⟩,
    ⟨(some 16), none, .q (.ext 1 (.t 12)), []⟩,
    ⟨(some 4), none, .q (.mv (.t 15)), []⟩,
    ⟨(some 5), none, .q (.mv (.t 16)), []⟩]) Q a σ := id rfl
@[go_sem] theorem c11_2_wp (P : Program) (Q : APost) (a : AFr) (σ : ASt) : c11_2.wp P Q a σ = ACode.wp P (.ops [
    ⟨(some 18), none, .q (.mv (.t 4)), []⟩,
    ⟨(some 19), none, .e (.call 37 [(.t 18), (.v (.str [46]))]), []⟩,
    ⟨(some 17), none, .q (.mv (.t 19)), []⟩,
    ⟨(some 20), none, .q (.ext 0 (.t 17)), []⟩,
    ⟨(some 21), none, .q (.ext 1 (.t 17)), []⟩,
    ⟨(some 22), none, .q (.ext 2 (.t 17)), []⟩,
    ⟨(some 6), none, .q (.mv (.t 20)), []⟩,
    ⟨(some 7), none, .q (.mv (.t 21)), []⟩,
    ⟨(some 8), none, .q (.mv (.t 22)), []⟩]) Q a σ := id rfl
@[go_sem] theorem c11_3_wp (P : Program) (Q : APost) (a : AFr) (σ : ASt) : c11_3.wp P Q a σ = ACode.wp P (.ops [
    ⟨(some 23), none, .q (.mv (.t 6)), []⟩,
    ⟨(some 24), none, .q (.bin .eql (.t 23) (.v (.str []))), []⟩,
    ⟨(some 25), none, .q (.mv (.t 24)), []⟩,
    ⟨(some 26), (some (25, false)), .q (.mv (.t 8)), []⟩,
    ⟨(some 27), (some (25, false)), .q (.mv (.t 26)), []⟩,
    ⟨(some 28), (some (27, true)), .q (.mv (.t 7)), []⟩,
    ⟨(some 29), (some (27, true)), .q (.bin .eql (.t 28) (.v (.str []))), []⟩,
    ⟨(some 30), (some (27, true)), .q (.mv (.t 29)), []⟩,
    ⟨(some 31), (some (30, false)), .q (.mv (.t 7)), []⟩,
    ⟨(some 32), (some (30, false)), .q (.lenS (.t 31)), []⟩,
    ⟨(some 33), (some (30, false)), .q (.bin .gtr (.t 32) (.v (.int .i64 4))), []⟩,
    ⟨(some 34), (some (27, true)), .q (.pick (.t 30) (.v (.bool true)) (.t 33)), []⟩,
    ⟨(some 35), (some (25, false)), .q (.pick (.t 27) (.t 34) (.v (.bool false))), []⟩,
    ⟨(some 36), none, .q (.pick (.t 25) (.v (.bool true)) (.t 35)), []⟩]) Q a σ := id rfl
@[go_sem] theorem c11_4_wp (P : Program) (Q : APost) (a : AFr) (σ : ASt) : c11_4.wp P Q a σ = ACode.wp P (.ops [
    ⟨(some 2), none, .q (.mv (.v (.int .i64 0))), []⟩,
    ⟨(some 3), none, .q (.mv (.v (.bool false))), []⟩]) Q a σ := id rfl
@[go_sem] theorem c11_5_wp (P : Program) (Q : APost) (a : AFr) (σ : ASt) : c11_5.wp P Q a σ = ACode.wp P (.seq c11_4 .ret) Q a σ := id rfl
@[go_sem] theorem c11_6_wp (P : Program) (Q : APost) (a : AFr) (σ : ASt) : c11_6.wp P Q a σ = ACode.wp P (.cond (.t 36) c11_5 .skip) Q a σ := id rfl
@[go_sem] theorem c11_7_wp (P : Program) (Q : APost) (a : AFr) (σ : ASt) : c11_7.wp P Q a σ = ACode.wp P (.seq c11_3 c11_6) Q a σ := id rfl
@[go_sem] theorem c11_8_wp (P : Program) (Q : APost) (a : AFr) (σ : ASt) : c11_8.wp P Q a σ = ACode.wp P (.ops [
    ⟨(some 9), none, .q (.mv (.v (.int .u64 0))), []⟩]) Q a σ := id rfl
@[go_sem] theorem c11_9_wp (P : Program) (Q : APost) (a : AFr) (σ : ASt) : c11_9.wp P Q a σ = ACode.wp P (.ops [
    ⟨(some 37), none, .q (.mv (.t 6)), []⟩,
    ⟨(some 38), none, .q (.mv (.t 7)), []⟩,
    ⟨(some 39), none, .q (.bin .add (.t 37) (.t 38)), []⟩,
    ⟨(some 40), none, .q (.mv (.t 7)), []⟩,
    ⟨(some 41), none, .q (.lenS (.t 40)), []⟩,
    ⟨(some 42), none, .q (.slfrom (true, 0) (.v (.str [48, 48, 48, 48])) (.t 41)), []⟩,
    ⟨(some 43), none, .q (.bin .add (.t 39) (.t 42)), []⟩,
    ⟨(some 44), none, .e (.s2b (.t 43)), []⟩,
    ⟨(some 45), none, .q (.len (.t 44)), []⟩,
    ⟨(some 46), none, .q (.mv (.v (.int .i64 0))), []⟩]) Q a σ := id rfl
@[go_sem] theorem c11_10_wp (P : Program) (Q : APost) (a : AFr) (σ : ASt) : c11_10.wp P Q a σ = ACode.wp P (.ops [
    ⟨(some 47), none, .q (.bin .lss (.t 46) (.t 45)), []⟩]) Q a σ := id rfl
@[go_sem] theorem c11_11_wp (P : Program) (Q : APost) (a : AFr) (σ : ASt) : c11_11.wp P Q a σ = ACode.wp P (.cond (.t 47) .skip (.exit 0)) Q a σ := id rfl
@[go_sem] theorem c11_12_wp (P : Program) (Q : APost) (a : AFr) (σ : ASt) : c11_12.wp P Q a σ = ACode.wp P (.ops [
    ⟨(some 48), none, .q (.ia 1 (.t 44) (.t 46)), []⟩,
    ⟨(some 49), none, .q (.ld none (.t 48)), []⟩,
    ⟨(some 11), none, .q (.mv (.t 49)), []⟩]) Q a σ := id rfl
@[go_sem] theorem c11_13_wp (P : Program) (Q : APost) (a : AFr) (σ : ASt) : c11_13.wp P Q a σ = ACode.wp P (.ops [
    ⟨(some 50), none, .q (.mv (.t 11)), []⟩,
    ⟨(some 51), none, .q (.bin .lss (.t 50) (.v (.int .u8 48))), []⟩,
    ⟨(some 52), none, .q (.mv (.t 51)), []⟩,
    ⟨(some 53), (some (52, false)), .q (.mv (.t 11)), []⟩,
    ⟨(some 54), (some (52, false)), .q (.bin .gtr (.t 53) (.v (.int .u8 57))), []⟩,
    ⟨(some 55), none, .q (.pick (.t 52) (.v (.bool true)) (.t 54)), []⟩,
    ⟨(some 56), none, .q (.mv (.t 55)), []⟩,
    ⟨(some 57), (some (56, false)), .q (.mv (.t 9)), []⟩,
    ⟨(some 58), (some (56, false)), .q (.bin .gtr (.t 57) (.v (.int .u64 99999999999999999))), []⟩,
    ⟨(some 59), none, .q (.pick (.t 56) (.v (.bool true)) (.t 58)), []⟩]) Q a σ := id rfl
@[go_sem] theorem c11_14_wp (P : Program) (Q : APost) (a : AFr) (σ : ASt) : c11_14.wp P Q a σ = ACode.wp P (.ops [
    ⟨(some 2), none, .q (.mv (.v (.int .i64 0))), []⟩,
    ⟨(some 3), none, .q (.mv (.v (.bool false))), []⟩]) Q a σ := id rfl
@[go_sem] theorem c11_15_wp (P : Program) (Q : APost) (a : AFr) (σ : ASt) : c11_15.wp P Q a σ = ACode.wp P (.seq c11_14 .ret) Q a σ := id rfl
@[go_sem] theorem c11_16_wp (P : Program) (Q : APost) (a : AFr) (σ : ASt) : c11_16.wp P Q a σ = ACode.wp P (.cond (.t 59) c11_15 .skip) Q a σ := id rfl
@[go_sem] theorem c11_17_wp (P : Program) (Q : APost) (a : AFr) (σ : ASt) : c11_17.wp P Q a σ = ACode.wp P (.seq c11_13 c11_16) Q a σ := id rfl
@[go_sem] theorem c11_18_wp (P : Program) (Q : APost) (a : AFr) (σ : ASt) : c11_18.wp P Q a σ = ACode.wp P (.ops [
    ⟨(some 60), none, .q (.mv (.t 9)), []⟩,
    ⟨(some 61), none, .q (.bin .mul (.v (.int .u64 10)) (.t 60)), []⟩,
    ⟨(some 62), none, .q (.mv (.t 11)), []⟩,
    ⟨(some 63), none, .q (.bin .sub (.t 62) (.v (.int .u8 48))), []⟩,
    ⟨(some 64), none, .q (.conv .u64 (.t 63)), []⟩,
    ⟨(some 65), none, .q (.bin .add (.t 61) (.t 64)), []⟩,
    ⟨(some 9), none, .q (.mv (.t 65)), []⟩]) Q a σ := id rfl
@[go_sem] theorem c11_19_wp (P : Program) (Q : APost) (a : AFr) (σ : ASt) : c11_19.wp P Q a σ = ACode.wp P (.seq c11_17 c11_18) Q a σ := id rfl
@[go_sem] theorem c11_20_wp (P : Program) (Q : APost) (a : AFr) (σ : ASt) : c11_20.wp P Q a σ = ACode.wp P (.seq c11_12 c11_19) Q a σ := id rfl
@[go_sem] theorem c11_21_wp (P : Program) (Q : APost) (a : AFr) (σ : ASt) : c11_21.wp P Q a σ = ACode.wp P (.block 1 c11_20) Q a σ := id rfl
@[go_sem] theorem c11_22_wp (P : Program) (Q : APost) (a : AFr) (σ : ASt) : c11_22.wp P Q a σ = ACode.wp P (.ops [
    ⟨(some 66), none, .q (.bin .add (.t 46) (.v (.int .i64 1))), []⟩,
    ⟨(some 46), none, .q (.mv (.t 66)), []⟩]) Q a σ := id rfl
@[go_sem] theorem c11_23_wp (P : Program) (Q : APost) (a : AFr) (σ : ASt) : c11_23.wp P Q a σ = ACode.wp P (.seq c11_21 c11_22) Q a σ := id rfl
@[go_sem] theorem c11_24_wp (P : Program) (Q : APost) (a : AFr) (σ : ASt) : c11_24.wp P Q a σ = ACode.wp P (.seq c11_11 c11_23) Q a σ := id rfl
@[go_sem] theorem c11_25_wp (P : Program) (Q : APost) (a : AFr) (σ : ASt) : c11_25.wp P Q a σ = ACode.wp P (.seq c11_10 c11_24) Q a σ := id rfl
@[go_sem] theorem c11_26_wp (P : Program) (Q : APost) (a : AFr) (σ : ASt) : c11_26.wp P Q a σ = ACode.wp P (.loop c11_25) Q a σ := id rfl
@[go_sem] theorem c11_27_wp (P : Program) (Q : APost) (a : AFr) (σ : ASt) : c11_27.wp P Q a σ = ACode.wp P (.block 0 c11_26) Q a σ := id rfl
@[go_sem] theorem c11_28_wp (P : Program) (Q : APost) (a : AFr) (σ : ASt) : c11_28.wp P Q a σ = ACode.wp P (.seq c11_9 c11_27) Q a σ := id rfl
@[go_sem] theorem c11_29_wp (P : Program) (Q : APost) (a : AFr) (σ : ASt) : c11_29.wp P Q a σ = ACode.wp P (.ops [
    ⟨(some 67), none, .q (.mv (.t 5)), []⟩,
    ⟨(some 68), none, .q (.mv (.t 9)), []⟩,
    ⟨(some 69), none, .e (.call 38 [(.t 67), (.v (.int .u64 0)), (.t 68)]), []⟩,
    ⟨(some 70), none, .q (.ext 0 (.t 69)), []⟩,
    ⟨(some 71), none, .q (.ext 1 (.t 69)), []⟩,
    ⟨(some 2), none, .q (.mv (.t 70)), []⟩,
    ⟨(some 3), none, .q (.mv (.t 71)), []⟩]) Q a σ := id rfl
@[go_sem] theorem c11_30_wp (P : Program) (Q : APost) (a : AFr) (σ : ASt) : c11_30.wp P Q a σ = ACode.wp P (.seq c11_29 .ret) Q a σ := id rfl
@[go_sem] theorem c11_31_wp (P : Program) (Q : APost) (a : AFr) (σ : ASt) : c11_31.wp P Q a σ = ACode.wp P (.seq c11_28 c11_30) Q a σ := id rfl
@[go_sem] theorem c11_32_wp (P : Program) (Q : APost) (a : AFr) (σ : ASt) : c11_32.wp P Q a σ = ACode.wp P (.seq c11_8 c11_31) Q a σ := id rfl
@[go_sem] theorem c11_33_wp (P : Program) (Q : APost) (a : AFr) (σ : ASt) : c11_33.wp P Q a σ = ACode.wp P (.seq c11_7 c11_32) Q a σ := id rfl
@[go_sem] theorem c11_34_wp (P : Program) (Q : APost) (a : AFr) (σ : ASt) : c11_34.wp P Q a σ = ACode.wp P (.seq c11_2 c11_33) Q a σ := id rfl
@[go_sem] theorem c11_35_wp (P : Program) (Q : APost) (a : AFr) (σ : ASt) : c11_35.wp P Q a σ = ACode.wp P (.seq c11_1 c11_34) Q a σ := id rfl
@[go_sem] theorem c11_36_wp (P : Program) (Q : APost) (a : AFr) (σ : ASt) : c11_36.wp P Q a σ = ACode.wp P (.seq c11_0 c11_35) Q a σ := id rfl
def c11 : AFn := ⟨72, [.t 2, .t 3], c11_36⟩
set_option maxRecDepth 100000 in
theorem c11_ok : compF Tryd.prog Tryd.f11 = some c11 := by kernel_rfl
theorem a11 {args : List AV} {σ : ASt} {R : AV → ASt → Prop} (hl : args.length ≤ 72) (h : c11_36.wp Tryd.prog (RetQ [.t 2, .t 3] R) (init args) σ) : ACalls Tryd.prog 11 args σ R := acalls_of Tryd.func11 c11_ok hl h

/-! 12: (tabular/deci.Dec).Text -/
def c12_0 : ACode := .ops [
    ⟨(some 2), none, .q (.mv (.v (.str []))), []⟩]
def c12_1 : ACode := .ops [
    ⟨(some 6), none, .q (.mv (.t 0)), []⟩,
    ⟨(some 7), none, .e (.call 39 [(.t 6)]), []⟩,
    ⟨(some 3), none, .q (.mv (.t 7)), []⟩]
def c12_2 : ACode := .ops [
    ⟨(some 8), none, .q (.mv (.t 3)), []⟩,
    ⟨(some 9), none, .q (.bin .quo (.t 8) (.v (.int .u64 10000))), []⟩,
    ⟨(some 10), none, .e (.call 40 [(.t 9), (.v (.int .i64 10))]), []⟩,
    ⟨(some 4), none, .q (.mv (.t 10)), []⟩]
def c12_3 : ACode := .ops [
    ⟨(some 11), none, .q (.mv (.t 3)), []⟩,
    ⟨(some 12), none, .q (.bin .rem (.t 11) (.v (.int .u64 10000))), []⟩,
    ⟨(some 5), none, .q (.mv (.t 12)), []⟩]
def c12_4 : ACode := .ops [
    ⟨(some 13), none, .q (.mv (.t 5)), []⟩,
    ⟨(some 14), none, .q (.bin .gtr (.t 13) (.v (.int .u64 0))), []⟩]
def c12_5 : ACode := .ops [
    ⟨(some 15), none, .q (.mv (.t 4)), []⟩,
    ⟨(some 16), none, .q (.mv (.t 5)), []⟩,
    ⟨(some 17), none, .q (.bin .add (.v (.int .u64 10000)) (.t 16)), []⟩,
    ⟨(some 18), none, .e (.call 40 [(.t 17), (.v (.int .i64 10))]), []⟩,
    ⟨(some 19), none, .q (.slfrom (true, 0) (.t 18) (.v (.int .i64 1))), []⟩,
    ⟨(some 20), none, .e (.call 41 [(.t 19), (.v (.str [48]))]), []⟩,
    ⟨(some 21), none, .q (.bin .add (.v (.str [46])) (.t 20)), []⟩,
    ⟨(some 22), none, .q (.bin .add (.t 15) (.t 21)), []⟩,
    ⟨(some 4), none, .q (.mv (.t 22)), []⟩]
def c12_6 : ACode := .cond (.t 14) c12_5 .skip
def c12_7 : ACode := .seq c12_4 c12_6
def c12_8 : ACode := .seq c12_3 c12_7
def c12_9 : ACode := .ops [
    ⟨(some 23), none, .q (.mv (.t 0)), []⟩,
    ⟨(some 24), none, .q (.bin .lss (.t 23) (.v (.int .i64 0))), []⟩]
def c12_10 : ACode := .ops [
    ⟨(some 25), none, .q (.mv (.t 4)), []⟩,
    ⟨(some 26), none, .q (.bin .add (.v (.str [45])) (.t 25)), []⟩,
    ⟨(some 2), none, .q (.mv (.t 26)), []⟩]
def c12_11 : ACode := .seq c12_10 .ret
def c12_12 : ACode := .cond (.t 24) c12_11 .skip
def c12_13 : ACode := .seq c12_9 c12_12
def c12_14 : ACode := .ops [
    ⟨(some 27), none, .q (.mv (.t 4)), []⟩,
    ⟨(some 2), none, .q (.mv (.t 27)), []⟩]
def c12_15 : ACode := .seq c12_14 .ret
def c12_16 : ACode := .seq c12_13 c12_15
def c12_17 : ACode := .seq c12_8 c12_16
def c12_18 : ACode := .seq c12_2 c12_17
def c12_19 : ACode := .seq c12_1 c12_18
def c12_20 : ACode := .seq c12_0 c12_19
@[go_sem] theorem c12_0_wp (P : Program) (Q : APost) (a : AFr) (σ : ASt) : c12_0.wp P Q a σ = ACode.wp P (.ops [
    ⟨(some 2), none, .q (.mv (.v (.str []))), []⟩]) Q a σ := id rfl
@[go_sem] theorem c12_1_wp (P : Program) (Q : APost) (a : AFr) (σ : ASt) : c12_1.wp P Q a σ = ACode.wp P (.ops [
    ⟨(some 6), none, .q (.mv (.t 0)), []⟩,
    ⟨(some 7), none, .e (.call 39 [(.t 6)]), []⟩,
    ⟨(some 3), none, .q (.mv (.t 7)), []⟩]) Q a σ := id rfl
@[go_sem] theorem c12_2_wp (P : Program) (Q : APost) (a : AFr) (σ : ASt) : c12_2.wp P Q a σ = ACode.wp P (.ops [
    ⟨(some 8), none, .q (.mv (.t 3)), []⟩,
    ⟨(some 9), none, .q (.bin .quo (.t 8) (.v (.int .u64 10000))), []⟩,
    ⟨(some 10), none, .e (.call 40 [(.t 9), (.v (.int .i64 10))]), []⟩,
    ⟨(some 4), none, .q (.mv (.t 10)), []⟩]) Q a σ := id rfl
@[go_sem] theorem c12_3_wp (P : Program) (Q : APost) (a : AFr) (σ : ASt) : c12_3.wp P Q a σ = ACode.wp P (.ops [
    ⟨(some 11), none, .q (.mv (.t 3)), []⟩,
    ⟨(some 12), none, .q (.bin .rem (.t 11) (.v (.int .u64 10000))), []⟩,
    ⟨(some 5), none, .q (.mv (.t 12)), []⟩]) Q a σ := id rfl
@[go_sem] theorem c12_4_wp (P : Program) (Q : APost) (a : AFr) (σ : ASt) : c12_4.wp P Q a σ = ACode.wp P (.ops [
    ⟨(some 13), none, .q (.mv (.t 5)), []⟩,
    ⟨(some 14), none, .q (.bin .gtr (.t 13) (.v (.int .u64 0))), []⟩]) Q a σ := id rfl
@[go_sem] theorem c12_5_wp (P : Program) (Q : APost) (a : AFr) (σ : ASt) : c12_5.wp P Q a σ = ACode.wp P (.ops [
    ⟨(some 15), none, .q (.mv (.t 4)), []⟩,
    ⟨(some 16), none, .q (.mv (.t 5)), []⟩,
    ⟨(some 17), none, .q (.bin .add (.v (.int .u64 10000)) (.t 16)), []⟩,
    ⟨(some 18), none, .e (.call 40 [(.t 17), (.v (.int .i64 10))]), []⟩,
    ⟨(some 19), none, .q (.slfrom (true, 0) (.t 18) (.v (.int .i64 1))), []⟩,
    ⟨(some 20), none, .e (.call 41 [(.t 19), (.v (.str [48]))]), []⟩,
    ⟨(some 21), none, .q (.bin .add (.v (.str [46])) (.t 20)), []⟩,
    ⟨(some 22), none, .q (.bin .add (.t 15) (.t 21)), []⟩,
    ⟨(some 4), none, .q (.mv (.t 22)), []⟩]) Q a σ := id rfl
@[go_sem] theorem c12_6_wp (P : Program) (Q : APost) (a : AFr) (σ : ASt) : c12_6.wp P Q a σ = ACode.wp P (.cond (.t 14) c12_5 .skip) Q a σ := id rfl
@[go_sem] theorem c12_7_wp (P : Program) (Q : APost) (a : AFr) (σ : ASt) : c12_7.wp P Q a σ = ACode.wp P (.seq c12_4 c12_6) Q a σ := id rfl
@[go_sem] theorem c12_8_wp (P : Program) (Q : APost) (a : AFr) (σ : ASt) : c12_8.wp P Q a σ = ACode.wp P (.seq c12_3 c12_7) Q a σ := id rfl
@[go_sem] theorem c12_9_wp (P : Program) (Q : APost) (a : AFr) (σ : ASt) : c12_9.wp P Q a σ = ACode.wp P (.ops [
    ⟨(some 23), none, .q (.mv (.t 0)), []⟩,
    ⟨(some 24), none, .q (.bin .lss (.t 23) (.v (.int .i64 0))), []⟩]) Q a σ := id rfl
@[go_sem] theorem c12_10_wp (P : Program) (Q : APost) (a : AFr) (σ : ASt) : c12_10.wp P Q a σ = ACode.wp P (.ops [
    ⟨(some 25), none, .q (.mv (.t 4)), []⟩,
    ⟨(some 26), none, .q (.bin .add (.v (.str [45])) (.t 25)), []⟩,
    ⟨(some 2), none, .q (.mv (.t 26)), []⟩]) Q a σ := id rfl
@[go_sem] theorem c12_11_wp (P : Program) (Q : APost) (a : AFr) (σ : ASt) : c12_11.wp P Q a σ = ACode.wp P (.seq c12_10 .ret) Q a σ := id rfl
@[go_sem] theorem c12_12_wp (P : Program) (Q : APost) (a : AFr) (σ : ASt) : c12_12.wp P Q a σ = ACode.wp P (.cond (.t 24) c12_11 .skip) Q a σ := id rfl
@[go_sem] theorem c12_13_wp (P : Program) (Q : APost) (a : AFr) (σ : ASt) : c12_13.wp P Q a σ = ACode.wp P (.seq c12_9 c12_12) Q a σ := id rfl
@[go_sem] theorem c12_14_wp (P : Program) (Q : APost) (a : AFr) (σ : ASt) : c12_14.wp P Q a σ = ACode.wp P (.ops [
    ⟨(some 27), none, .q (.mv (.t 4)), []⟩,
    ⟨(some 2), none, .q (.mv (.t 27)), []⟩]) Q a σ := id rfl
@[go_sem] theorem c12_15_wp (P : Program) (Q : APost) (a : AFr) (σ : ASt) : c12_15.wp P Q a σ = ACode.wp P (.seq c12_14 .ret) Q a σ := id rfl
@[go_sem] theorem c12_16_wp (P : Program) (Q : APost) (a : AFr) (σ : ASt) : c12_16.wp P Q a σ = ACode.wp P (.seq c12_13 c12_15) Q a σ := id rfl
@[go_sem] theorem c12_17_wp (P : Program) (Q : APost) (a : AFr) (σ : ASt) : c12_17.wp P Q a σ = ACode.wp P (.seq c12_8 c12_16) Q a σ := id rfl
@[go_sem] theorem c12_18_wp (P : Program) (Q : APost) (a : AFr) (σ : ASt) : c12_18.wp P Q a σ = ACode.wp P (.seq c12_2 c12_17) Q a σ := id rfl
@[go_sem] theorem c12_19_wp (P : Program) (Q : APost) (a : AFr) (σ : ASt) : c12_19.wp P Q a σ = ACode.wp P (.seq c12_1 c12_18) Q a σ := id rfl
@[go_sem] theorem c12_20_wp (P : Program) (Q : APost) (a : AFr) (σ : ASt) : c12_20.wp P Q a σ = ACode.wp P (.seq c12_0 c12_19) Q a σ := id rfl
def c12 : AFn := ⟨28, [.t 2], c12_20⟩
set_option maxRecDepth 100000 in
theorem c12_ok : compF Tryd.prog Tryd.f12 = some c12 := by kernel_rfl
theorem a12 {args : List AV} {σ : ASt} {R : AV → ASt → Prop} (hl : args.length ≤ 28) (h : c12_20.wp Tryd.prog (RetQ [.t 2] R) (init args) σ) : ACalls Tryd.prog 12 args σ R := acalls_of Tryd.func12 c12_ok hl h

/-! 13: tabular/deci.Round -/
def c13_0 : ACode := .ops [
    ⟨(some 4), none, .q (.mv (.v (.int .i64 0))), []⟩,
    ⟨(some 5), none, .q (.mv (.v (.bool false))), []⟩]
def c13_1 : ACode := .ops [
    ⟨(some 10), none, .q (.mv (.t 1)), []⟩,
    ⟨(some 11), none, .q (.bin .lss (.t 10) (.v (.int .i64 (-14)))), []⟩]
def c13_2 : ACode := .ops [
    ⟨(some 4), none, .q (.mv (.v (.int .i64 0))), []⟩,
    ⟨(some 5), none, .q (.mv (.v (.bool true))), []⟩]
def c13_3 : ACode := .seq c13_2 .ret
def c13_4 : ACode := .cond (.t 11) c13_3 .skip
def c13_5 : ACode := .seq c13_1 c13_4
def c13_6 : ACode := .ops [
    ⟨(some 13), none, .q (.mv (.t 1)), []⟩,
    ⟨(some 14), none, .e (.call 42 [(.t 13)]), []⟩,
    ⟨(some 12), none, .q (.mv (.t 14)), []⟩,
    ⟨(some 15), none, .q (.ext 0 (.t 12)), []⟩,
    ⟨(some 16), none, .q (.ext 1 (.t 12)), []⟩,
    ⟨(some 6), none, .q (.mv (.t 15)), []⟩,
    ⟨(some 7), none, .q (.mv (.t 16)), []⟩]
def c13_7 : ACode := .ops [
    ⟨(some 17), none, .q (.mv (.t 7)), []⟩,
    ⟨(some 18), none, .q (.un .not (.t 17)), []⟩]
def c13_8 : ACode := .ops [
    ⟨(some 19), none, .q (.mv (.t 0)), []⟩,
    ⟨(some 4), none, .q (.mv (.t 19)), []⟩,
    ⟨(some 5), none, .q (.mv (.v (.bool true))), []⟩]
def c13_9 : ACode := .seq c13_8 .ret
def c13_10 : ACode := .cond (.t 18) c13_9 .skip
def c13_11 : ACode := .seq c13_7 c13_10
def c13_12 : ACode := .ops [
    ⟨(some 20), none, .q (.mv (.t 0)), []⟩,
    ⟨(some 21), none, .e (.call 39 [(.t 20)]), []⟩,
    ⟨(some 8), none, .q (.mv (.t 21)), []⟩]
def c13_13 : ACode := .ops [
    ⟨(some 22), none, .q (.mv (.t 8)), []⟩,
    ⟨(some 23), none, .q (.mv (.t 6)), []⟩,
    ⟨(some 24), none, .q (.bin .rem (.t 22) (.t 23)), []⟩,
    ⟨(some 9), none, .q (.mv (.t 24)), []⟩]
def c13_14 : ACode := .ops [
    ⟨(some 25), none, .q (.mv (.t 8)), []⟩,
    ⟨(some 26), none, .q (.mv (.t 9)), []⟩,
    ⟨(some 27), none, .q (.bin .sub (.t 25) (.t 26)), []⟩,
    ⟨(some 8), none, .q (.mv (.t 27)), []⟩]
def c13_15 : ACode := .ops [
    ⟨(some 28), none, .q (.mv (.t 9)), []⟩,
    ⟨(some 29), none, .q (.mv (.t 6)), []⟩,
    ⟨(some 30), none, .q (.mv (.t 9)), []⟩,
    ⟨(some 31), none, .q (.bin .sub (.t 29) (.t 30)), []⟩,
    ⟨(some 32), none, .q (.bin .geq (.t 28) (.t 31)), []⟩]
def c13_16 : ACode := .ops [
    ⟨(some 33), none, .q (.mv (.t 8)), []⟩,
    ⟨(some 34), none, .q (.mv (.t 6)), []⟩,
    ⟨(some 35), none, .q (.bin .add (.t 33) (.t 34)), []⟩,
    ⟨(some 8), none, .q (.mv (.t 35)), []⟩]
def c13_17 : ACode := .cond (.t 32) c13_16 .skip
def c13_18 : ACode := .seq c13_15 c13_17
def c13_19 : ACode := .ops [
    ⟨(some 36), none, .q (.mv (.t 0)), []⟩,
    ⟨(some 37), none, .q (.bin .lss (.t 36) (.v (.int .i64 0))), []⟩,
    ⟨(some 38), none, .q (.mv (.t 8)), []⟩,
    ⟨(some 39), none, .e (.call 38 [(.t 37), (.v (.int .u64 0)), (.t 38)]), []⟩,
    ⟨(some 40), none, .q (.ext 0 (.t 39)), []⟩,
    ⟨(some 41), none, .q (.ext 1 (.t 39)), []⟩,
    ⟨(some 4), none, .q (.mv (.t 40)), []⟩,
    ⟨(some 5), none, .q (.mv (.t 41)), []⟩]
def c13_20 : ACode := .seq c13_19 .ret
def c13_21 : ACode := .seq c13_18 c13_20
def c13_22 : ACode := .seq c13_14 c13_21
def c13_23 : ACode := .seq c13_13 c13_22
def c13_24 : ACode := .seq c13_12 c13_23
def c13_25 : ACode := .seq c13_11 c13_24
def c13_26 : ACode := .seq c13_6 c13_25
def c13_27 : ACode := .seq c13_5 c13_26
def c13_28 : ACode := .seq c13_0 c13_27
@[go_sem] theorem c13_0_wp (P : Program) (Q : APost) (a : AFr) (σ : ASt) : c13_0.wp P Q a σ = ACode.wp P (.ops [
    ⟨(some 4), none, .q (.mv (.v (.int .i64 0))), []⟩,
    ⟨(some 5), none, .q (.mv (.v (.bool false))), []⟩]) Q a σ := id rfl
@[go_sem] theorem c13_1_wp (P : Program) (Q : APost) (a : AFr) (σ : ASt) : c13_1.wp P Q a σ = ACode.wp P (.ops [
    ⟨(some 10), none, .q (.mv (.t 1)), []⟩,
    ⟨(some 11), none, .q (.bin .lss (.t 10) (.v (.int .i64 (-14)))), []⟩]) Q a σ := id rfl
@[go_sem] theorem c13_2_wp (P : Program) (Q : APost) (a : AFr) (σ : ASt) : c13_2.wp P Q a σ = ACode.wp P (.ops [
    ⟨(some 4), none, .q (.mv (.v (.int .i64 0))), []⟩,
    ⟨(some 5), none, .q (.mv (.v (.bool true))), []⟩]) Q a σ := id rfl
@[go_sem] theorem c13_3_wp (P : Program) (Q : APost) (a : AFr) (σ : ASt) : c13_3.wp P Q a σ = ACode.wp P (.seq c13_2 .ret) Q a σ := id rfl
@[go_sem] theorem c13_4_wp (P : Program) (Q : APost) (a : AFr) (σ : ASt) : c13_4.wp P Q a σ = ACode.wp P (.cond (.t 11) c13_3 .skip) Q a σ := id rfl
@[go_sem] theorem c13_5_wp (P : Program) (Q : APost) (a : AFr) (σ : ASt) : c13_5.wp P Q a σ = ACode.wp P (.seq c13_1 c13_4) Q a σ := id rfl
@[go_sem] theorem c13_6_wp (P : Program) (Q : APost) (a : AFr) (σ : ASt) : c13_6.wp P Q a σ = ACode.wp P (.ops [
    ⟨(some 13), none, .q (.mv (.t 1)), []⟩,
    ⟨(some 14), none, .e (.call 42 [(.t 13)]), []⟩,
    ⟨(some 12), none, .q (.mv (.t 14)), []⟩,
    ⟨(some 15), none, .q (.ext 0 (.t 12)), []⟩,
    ⟨(some 16), none, .q (.ext 1 (.t 12)), []⟩,
    ⟨(some 6), none, .q (.mv (.t 15)), []⟩,
    ⟨(some 7), none, .q (.mv (.t 16)), []⟩]) Q a σ := id rfl
@[go_sem] theorem c13_7_wp (P : Program) (Q : APost) (a : AFr) (σ : ASt) : c13_7.wp P Q a σ = ACode.wp P (.ops [
    ⟨(some 17), none, .q (.mv (.t 7)), []⟩,
    ⟨(some 18), none, .q (.un .not (.t 17)), []⟩]) Q a σ := id rfl
@[go_sem] theorem c13_8_wp (P : Program) (Q : APost) (a : AFr) (σ : ASt) : c13_8.wp P Q a σ = ACode.wp P (.ops [
    ⟨(some 19), none, .q (.mv (.t 0)), []⟩,
    ⟨(some 4), none, .q (.mv (.t 19)), []⟩,
    ⟨(some 5), none, .q (.mv (.v (.bool true))), []⟩]) Q a σ := id rfl
@[go_sem] theorem c13_9_wp (P : Program) (Q : APost) (a : AFr) (σ : ASt) : c13_9.wp P Q a σ = ACode.wp P (.seq c13_8 .ret) Q a σ := id rfl
@[go_sem] theorem c13_10_wp (P : Program) (Q : APost) (a : AFr) (σ : ASt) : c13_10.wp P Q a σ = ACode.wp P (.cond (.t 18) c13_9 .skip) Q a σ := id rfl
@[go_sem] theorem c13_11_wp (P : Program) (Q : APost) (a : AFr) (σ : ASt) : c13_11.wp P Q a σ = ACode.wp P (.seq c13_7 c13_10) Q a σ := id rfl
@[go_sem] theorem c13_12_wp (P : Program) (Q : APost) (a : AFr) (σ : ASt) : c13_12.wp P Q a σ = ACode.wp P (.ops [
    ⟨(some 20), none, .q (.mv (.t 0)), []⟩,
    ⟨(some 21), none, .e (.call 39 [(.t 20)]), []⟩,
    ⟨(some 8), none, .q (.mv (.t 21)), []⟩]) Q a σ := id rfl
@[go_sem] theorem c13_13_wp (P : Program) (Q : APost) (a : AFr) (σ : ASt) : c13_13.wp P Q a σ = ACode.wp P (.ops [
    ⟨(some 22), none, .q (.mv (.t 8)), []⟩,
    ⟨(some 23), none, .q (.mv (.t 6)), []⟩,
    ⟨(some 24), none, .q (.bin .rem (.t 22) (.t 23)), []⟩,
    ⟨(some 9), none, .q (.mv (.t 24)), []⟩]) Q a σ := id rfl
@[go_sem] theorem c13_14_wp (P : Program) (Q : APost) (a : AFr) (σ : ASt) : c13_14.wp P Q a σ = ACode.wp P (.ops [
    ⟨(some 25), none, .q (.mv (.t 8)), []⟩,
    ⟨(some 26), none, .q (.mv (.t 9)), []⟩,
    ⟨(some 27), none, .q (.bin .sub (.t 25) (.t 26)), []⟩,
    ⟨(some 8), none, .q (.mv (.t 27)), []⟩]) Q a σ := id rfl
@[go_sem] theorem c13_15_wp (P : Program) (Q : APost) (a : AFr) (σ : ASt) : c13_15.wp P Q a σ = ACode.wp P (.ops [
    ⟨(some 28), none, .q (.mv (.t 9)), []⟩,
    ⟨(some 29), none, .q (.mv (.t 6)), []⟩,
    ⟨(some 30), none, .q (.mv (.t 9)), []⟩,
    ⟨(some 31), none, .q (.bin .sub (.t 29) (.t 30)), []⟩,
    ⟨(some 32), none, .q (.bin .geq (.t 28) (.t 31)), []⟩]) Q a σ := id rfl
@[go_sem] theorem c13_16_wp (P : Program) (Q : APost) (a : AFr) (σ : ASt) : c13_16.wp P Q a σ = ACode.wp P (.ops [
    ⟨(some 33), none, .q (.mv (.t 8)), []⟩,
    ⟨(some 34), none, .q (.mv (.t 6)), []⟩,
    ⟨(some 35), none, .q (.bin .add (.t 33) (.t 34)), []⟩,
    ⟨(some 8), none, .q (.mv (.t 35)), []⟩]) Q a σ := id rfl
@[go_sem] theorem c13_17_wp (P : Program) (Q : APost) (a : AFr) (σ : ASt) : c13_17.wp P Q a σ = ACode.wp P (.cond (.t 32) c13_16 .skip) Q a σ := id rfl
@[go_sem] theorem c13_18_wp (P : Program) (Q : APost) (a : AFr) (σ : ASt) : c13_18.wp P Q a σ = ACode.wp P (.seq c13_15 c13_17) Q a σ := id rfl
@[go_sem] theorem c13_19_wp (P : Program) (Q : APost) (a : AFr) (σ : ASt) : c13_19.wp P Q a σ = ACode.wp P (.ops [
    ⟨(some 36), none, .q (.mv (.t 0)), []⟩,
    ⟨(some 37), none, .q (.bin .lss (.t 36) (.v (.int .i64 0))), []⟩,
    ⟨(some 38), none, .q (.mv (.t 8)), []⟩,
    ⟨(some 39), none, .e (.call 38 [(.t 37), (.v (.int .u64 0)), (.t 38)]), []⟩,
    ⟨(some 40), none, .q (.ext 0 (.t 39)), []⟩,
    ⟨(some 41), none, .q (.ext 1 (.t 39)), []⟩,
    ⟨(some 4), none, .q (.mv (.t 40)), []⟩,
    ⟨(some 5), none, .q (.mv (.t 41)), []⟩]) Q a σ := id rfl
@[go_sem] theorem c13_20_wp (P : Program) (Q : APost) (a : AFr) (σ : ASt) : c13_20.wp P Q a σ = ACode.wp P (.seq c13_19 .ret) Q a σ := id rfl
@[go_sem] theorem c13_21_wp (P : Program) (Q : APost) (a : AFr) (σ : ASt) : c13_21.wp P Q a σ = ACode.wp P (.seq c13_18 c13_20) Q a σ := id rfl
@[go_sem] theorem c13_22_wp (P : Program) (Q : APost) (a : AFr) (σ : ASt) : c13_22.wp P Q a σ = ACode.wp P (.seq c13_14 c13_21) Q a σ := id rfl
@[go_sem] theorem c13_23_wp (P : Program) (Q : APost) (a : AFr) (σ : ASt) : c13_23.wp P Q a σ = ACode.wp P (.seq c13_13 c13_22) Q a σ := id rfl
@[go_sem] theorem c13_24_wp (P : Program) (Q : APost) (a : AFr) (σ : ASt) : c13_24.wp P Q a σ = ACode.wp P (.seq c13_12 c13_23) Q a σ := id rfl
@[go_sem] theorem c13_25_wp (P : Program) (Q : APost) (a : AFr) (σ : ASt) : c13_25.wp P Q a σ = ACode.wp P (.seq c13_11 c13_24) Q a σ := id rfl
@[go_sem] theorem c13_26_wp (P : Program) (Q : APost) (a : AFr) (σ : ASt) : c13_26.wp P Q a σ = ACode.wp P (.seq c13_6 c13_25) Q a σ := id rfl
@[go_sem] theorem c13_27_wp (P : Program) (Q : APost) (a : AFr) (σ : ASt) : c13_27.wp P Q a σ = ACode.wp P (.seq c13_5 c13_26) Q a σ := id rfl
@[go_sem] theorem c13_28_wp (P : Program) (Q : APost) (a : AFr) (σ : ASt) : c13_28.wp P Q a σ = ACode.wp P (.seq c13_0 c13_27) Q a σ := id rfl
def c13 : AFn := ⟨42, [.t 4, .t 5], c13_28⟩
set_option maxRecDepth 100000 in
theorem c13_ok : compF Tryd.prog Tryd.f13 = some c13 := by kernel_rfl
theorem a13 {args : List AV} {σ : ASt} {R : AV → ASt → Prop} (hl : args.length ≤ 42) (h : c13_28.wp Tryd.prog (RetQ [.t 4, .t 5] R) (init args) σ) : ACalls Tryd.prog 13 args σ R := acalls_of Tryd.func13 c13_ok hl h

/-! 14: tabular/deci.Abs -/
def c14_0 : ACode := .ops [
    ⟨(some 2), none, .q (.mv (.v (.int .i64 0))), []⟩]
def c14_1 : ACode := .ops [
    ⟨(some 3), none, .q (.mv (.t 0)), []⟩,
    ⟨(some 4), none, .q (.bin .lss (.t 3) (.v (.int .i64 0))), []⟩]
def c14_2 : ACode := .ops [
    ⟨(some 5), none, .q (.mv (.t 0)), []⟩,
    ⟨(some 6), none, .q (.un .neg (.t 5)), []⟩,
    ⟨(some 2), none, .q (.mv (.t 6)), []⟩]
def c14_3 : ACode := .seq c14_2 .ret
def c14_4 : ACode := .cond (.t 4) c14_3 .skip
def c14_5 : ACode := .seq c14_1 c14_4
def c14_6 : ACode := .ops [
    ⟨(some 7), none, .q (.mv (.t 0)), []⟩,
    ⟨(some 2), none, .q (.mv (.t 7)), []⟩]
def c14_7 : ACode := .seq c14_6 .ret
def c14_8 : ACode := .seq c14_5 c14_7
def c14_9 : ACode := .seq c14_0 c14_8
@[go_sem] theorem c14_0_wp (P : Program) (Q : APost) (a : AFr) (σ : ASt) : c14_0.wp P Q a σ = ACode.wp P (.ops [
    ⟨(some 2), none, .q (.mv (.v (.int .i64 0))), []⟩]) Q a σ := id rfl
@[go_sem] theorem c14_1_wp (P : Program) (Q : APost) (a : AFr) (σ : ASt) : c14_1.wp P Q a σ = ACode.wp P (.ops [
    ⟨(some 3), none, .q (.mv (.t 0)), []⟩,
    ⟨(some 4), none, .q (.bin .lss (.t 3) (.v (.int .i64 0))), []⟩]) Q a σ := id rfl
@[go_sem] theorem c14_2_wp (P : Program) (Q : APost) (a : AFr) (σ : ASt) : c14_2.wp P Q a σ = ACode.wp P (.ops [
    ⟨(some 5), none, .q (.mv (.t 0)), []⟩,
    ⟨(some 6), none, .q (.un .neg (.t 5)), []⟩,
    ⟨(some 2), none, .q (.mv (.t 6)), []⟩]) Q a σ := id rfl
@[go_sem] theorem c14_3_wp (P : Program) (Q : APost) (a : AFr) (σ : ASt) : c14_3.wp P Q a σ = ACode.wp P (.seq c14_2 .ret) Q a σ := id rfl
@[go_sem] theorem c14_4_wp (P : Program) (Q : APost) (a : AFr) (σ : ASt) : c14_4.wp P Q a σ = ACode.wp P (.cond (.t 4) c14_3 .skip) Q a σ := id rfl
@[go_sem] theorem c14_5_wp (P : Program) (Q : APost) (a : AFr) (σ : ASt) : c14_5.wp P Q a σ = ACode.wp P (.seq c14_1 c14_4) Q a σ := id rfl
@[go_sem] theorem c14_6_wp (P : Program) (Q : APost) (a : AFr) (σ : ASt) : c14_6.wp P Q a σ = ACode.wp P (.ops [
    ⟨(some 7), none, .q (.mv (.t 0)), []⟩,
    ⟨(some 2), none, .q (.mv (.t 7)), []⟩]) Q a σ := id rfl
@[go_sem] theorem c14_7_wp (P : Program) (Q : APost) (a : AFr) (σ : ASt) : c14_7.wp P Q a σ = ACode.wp P (.seq c14_6 .ret) Q a σ := id rfl
@[go_sem] theorem c14_8_wp (P : Program) (Q : APost) (a : AFr) (σ : ASt) : c14_8.wp P Q a σ = ACode.wp P (.seq c14_5 c14_7) Q a σ := id rfl
@[go_sem] theorem c14_9_wp (P : Program) (Q : APost) (a : AFr) (σ : ASt) : c14_9.wp P Q a σ = ACode.wp P (.seq c14_0 c14_8) Q a σ := id rfl
def c14 : AFn := ⟨8, [.t 2], c14_9⟩
set_option maxRecDepth 100000 in
theorem c14_ok : compF Tryd.prog Tryd.f14 = some c14 := by kernel_rfl
theorem a14 {args : List AV} {σ : ASt} {R : AV → ASt → Prop} (hl : args.length ≤ 8) (h : c14_9.wp Tryd.prog (RetQ [.t 2] R) (init args) σ) : ACalls Tryd.prog 14 args σ R := acalls_of Tryd.func14 c14_ok hl h

/-! 17: tabular/deci.Mod -/
def c17_0 : ACode := .ops [
    ⟨(some 4), none, .q (.mv (.v (.int .i64 0))), []⟩,
    ⟨(some 5), none, .q (.mv (.v (.bool false))), []⟩]
def c17_1 : ACode := .ops [
    ⟨(some 7), none, .q (.mv (.t 1)), []⟩,
    ⟨(some 8), none, .q (.bin .eql (.t 7) (.v (.int .i64 0))), []⟩]
def c17_2 : ACode := .ops [
    ⟨(some 4), none, .q (.mv (.v (.int .i64 0))), []⟩,
    ⟨(some 5), none, .q (.mv (.v (.bool false))), []⟩]
def c17_3 : ACode := .seq c17_2 .ret
def c17_4 : ACode := .cond (.t 8) c17_3 .skip
def c17_5 : ACode := .seq c17_1 c17_4
def c17_6 : ACode := .ops [
    ⟨(some 9), none, .q (.mv (.t 0)), []⟩,
    ⟨(some 10), none, .q (.mv (.t 1)), []⟩,
    ⟨(some 11), none, .q (.bin .rem (.t 9) (.t 10)), []⟩,
    ⟨(some 6), none, .q (.mv (.t 11)), []⟩]
def c17_7 : ACode := .ops [
    ⟨(some 12), none, .q (.mv (.t 6)), []⟩,
    ⟨(some 13), none, .q (.bin .neq (.t 12) (.v (.int .i64 0))), []⟩,
    ⟨(some 14), none, .q (.mv (.t 13)), []⟩,
    ⟨(some 15), (some (14, true)), .q (.mv (.t 6)), []⟩,
    ⟨(some 16), (some (14, true)), .q (.bin .lss (.t 15) (.v (.int .i64 0))), []⟩,
    ⟨(some 17), (some (14, true)), .q (.mv (.t 1)), []⟩,
    ⟨(some 18), (some (14, true)), .q (.bin .lss (.t 17) (.v (.int .i64 0))), []⟩,
    ⟨(some 19), (some (14, true)), .q (.eq .b true (.t 16) (.t 18)), []⟩,
    ⟨(some 20), none, .q (.pick (.t 14) (.t 19) (.v (.bool false))), []⟩]
def c17_8 : ACode := .ops [
    ⟨(some 21), none, .q (.mv (.t 6)), []⟩,
    ⟨(some 22), none, .q (.mv (.t 1)), []⟩,
    ⟨(some 23), none, .q (.bin .add (.t 21) (.t 22)), []⟩,
    ⟨(some 6), none, .q (.mv (.t 23)), []⟩]
def c17_9 : ACode := .cond (.t 20) c17_8 .skip
def c17_10 : ACode := .seq c17_7 c17_9
def c17_11 : ACode := .ops [
    ⟨(some 24), none, .q (.mv (.t 6)), []⟩,
    ⟨(some 4), none, .q (.mv (.t 24)), []⟩,
    ⟨(some 5), none, .q (.mv (.v (.bool true))), []⟩]
def c17_12 : ACode := .seq c17_11 .ret
def c17_13 : ACode := .seq c17_10 c17_12
def c17_14 : ACode := .seq c17_6 c17_13
def c17_15 : ACode := .seq c17_5 c17_14
def c17_16 : ACode := .seq c17_0 c17_15
@[go_sem] theorem c17_0_wp (P : Program) (Q : APost) (a : AFr) (σ : ASt) : c17_0.wp P Q a σ = ACode.wp P (.ops [
    ⟨(some 4), none, .q (.mv (.v (.int .i64 0))), []⟩,
    ⟨(some 5), none, .q (.mv (.v (.bool false))), []⟩]) Q a σ := id rfl
@[go_sem] theorem c17_1_wp (P : Program) (Q : APost) (a : AFr) (σ : ASt) : c17_1.wp P Q a σ = ACode.wp P (.ops [
    ⟨(some 7), none, .q (.mv (.t 1)), []⟩,
    ⟨(some 8), none, .q (.bin .eql (.t 7) (.v (.int .i64 0))), []⟩]) Q a σ := id rfl
@[go_sem] theorem c17_2_wp (P : Program) (Q : APost) (a : AFr) (σ : ASt) : c17_2.wp P Q a σ = ACode.wp P (.ops [
    ⟨(some 4), none, .q (.mv (.v (.int .i64 0))), []⟩,
    ⟨(some 5), none, .q (.mv (.v (.bool false))), []⟩]) Q a σ := id rfl
@[go_sem] theorem c17_3_wp (P : Program) (Q : APost) (a : AFr) (σ : ASt) : c17_3.wp P Q a σ = ACode.wp P (.seq c17_2 .ret) Q a σ := id rfl
@[go_sem] theorem c17_4_wp (P : Program) (Q : APost) (a : AFr) (σ : ASt) : c17_4.wp P Q a σ = ACode.wp P (.cond (.t 8) c17_3 .skip) Q a σ := id rfl
@[go_sem] theorem c17_5_wp (P : Program) (Q : APost) (a : AFr) (σ : ASt) : c17_5.wp P Q a σ = ACode.wp P (.seq c17_1 c17_4) Q a σ := id rfl
@[go_sem] theorem c17_6_wp (P : Program) (Q : APost) (a : AFr) (σ : ASt) : c17_6.wp P Q a σ = ACode.wp P (.ops [
    ⟨(some 9), none, .q (.mv (.t 0)), []⟩,
    ⟨(some 10), none, .q (.mv (.t 1)), []⟩,
    ⟨(some 11), none, .q (.bin .rem (.t 9) (.t 10)), []⟩,
    ⟨(some 6), none, .q (.mv (.t 11)), []⟩]) Q a σ := id rfl
@[go_sem] theorem c17_7_wp (P : Program) (Q : APost) (a : AFr) (σ : ASt) : c17_7.wp P Q a σ = ACode.wp P (.ops [
    ⟨(some 12), none, .q (.mv (.t 6)), []⟩,
    ⟨(some 13), none, .q (.bin .neq (.t 12) (.v (.int .i64 0))), []⟩,
    ⟨(some 14), none, .q (.mv (.t 13)), []⟩,
    ⟨(some 15), (some (14, true)), .q (.mv (.t 6)), []⟩,
    ⟨(some 16), (some (14, true)), .q (.bin .lss (.t 15) (.v (.int .i64 0))), []⟩,
    ⟨(some 17), (some (14, true)), .q (.mv (.t 1)), []⟩,
    ⟨(some 18), (some (14, true)), .q (.bin .lss (.t 17) (.v (.int .i64 0))), []⟩,
    ⟨(some 19), (some (14, true)), .q (.eq .b true (.t 16) (.t 18)), []⟩,
    ⟨(some 20), none, .q (.pick (.t 14) (.t 19) (.v (.bool false))), []⟩]) Q a σ := id rfl
@[go_sem] theorem c17_8_wp (P : Program) (Q : APost) (a : AFr) (σ : ASt) : c17_8.wp P Q a σ = ACode.wp P (.ops [
    ⟨(some 21), none, .q (.mv (.t 6)), []⟩,
    ⟨(some 22), none, .q (.mv (.t 1)), []⟩,
    ⟨(some 23), none, .q (.bin .add (.t 21) (.t 22)), []⟩,
    ⟨(some 6), none, .q (.mv (.t 23)), []⟩]) Q a σ := id rfl
@[go_sem] theorem c17_9_wp (P : Program) (Q : APost) (a : AFr) (σ : ASt) : c17_9.wp P Q a σ = ACode.wp P (.cond (.t 20) c17_8 .skip) Q a σ := id rfl
@[go_sem] theorem c17_10_wp (P : Program) (Q : APost) (a : AFr) (σ : ASt) : c17_10.wp P Q a σ = ACode.wp P (.seq c17_7 c17_9) Q a σ := id rfl
@[go_sem] theorem c17_11_wp (P : Program) (Q : APost) (a : AFr) (σ : ASt) : c17_11.wp P Q a σ = ACode.wp P (.ops [
    ⟨(some 24), none, .q (.mv (.t 6)), []⟩,
    ⟨(some 4), none, .q (.mv (.t 24)), []⟩,
    ⟨(some 5), none, .q (.mv (.v (.bool true))), []⟩]) Q a σ := id rfl
@[go_sem] theorem c17_12_wp (P : Program) (Q : APost) (a : AFr) (σ : ASt) : c17_12.wp P Q a σ = ACode.wp P (.seq c17_11 .ret) Q a σ := id rfl
@[go_sem] theorem c17_13_wp (P : Program) (Q : APost) (a : AFr) (σ : ASt) : c17_13.wp P Q a σ = ACode.wp P (.seq c17_10 c17_12) Q a σ := id rfl
@[go_sem] theorem c17_14_wp (P : Program) (Q : APost) (a : AFr) (σ : ASt) : c17_14.wp P Q a σ = ACode.wp P (.seq c17_6 c17_13) Q a σ := id rfl
@[go_sem] theorem c17_15_wp (P : Program) (Q : APost) (a : AFr) (σ : ASt) : c17_15.wp P Q a σ = ACode.wp P (.seq c17_5 c17_14) Q a σ := id rfl
@[go_sem] theorem c17_16_wp (P : Program) (Q : APost) (a : AFr) (σ : ASt) : c17_16.wp P Q a σ = ACode.wp P (.seq c17_0 c17_15) Q a σ := id rfl
def c17 : AFn := ⟨25, [.t 4, .t 5], c17_16⟩
set_option maxRecDepth 100000 in
theorem c17_ok : compF Tryd.prog Tryd.f17 = some c17 := by kernel_rfl
theorem a17 {args : List AV} {σ : ASt} {R : AV → ASt → Prop} (hl : args.length ≤ 25) (h : c17_16.wp Tryd.prog (RetQ [.t 4, .t 5] R) (init args) σ) : ACalls Tryd.prog 17 args σ R := acalls_of Tryd.func17 c17_ok hl h

/-! 35: tabular/deci.Div -/
def c35_0 : ACode := .ops [
    ⟨(some 4), none, .q (.mv (.v (.int .i64 0))), []⟩,
    ⟨(some 5), none, .q (.mv (.v (.bool false))), []⟩]
def c35_1 : ACode := .ops [
    ⟨(some 10), none, .q (.mv (.t 1)), []⟩,
    ⟨(some 11), none, .q (.bin .eql (.t 10) (.v (.int .i64 0))), []⟩]
def c35_2 : ACode := .ops [
    ⟨(some 4), none, .q (.mv (.v (.int .i64 0))), []⟩,
    ⟨(some 5), none, .q (.mv (.v (.bool false))), []⟩]
def c35_3 : ACode := .seq c35_2 .ret
def c35_4 : ACode := .cond (.t 11) c35_3 .skip
def c35_5 : ACode := .seq c35_1 c35_4
def c35_6 : ACode := .ops [
    ⟨(some 13), none, .q (.mv (.t 0)), []⟩,
    ⟨(some 14), none, .e (.call 39 [(.t 13)]), []⟩,
    ⟨(some 15), none, .e (.call 43 [(.t 14), (.v (.int .u64 10000))]), []⟩,
    ⟨(some 12), none, .q (.mv (.t 15)), []⟩,
    ⟨(some 16), none, .q (.ext 0 (.t 12)), []⟩,
    ⟨(some 17), none, .q (.ext 1 (.t 12)), []⟩,
    ⟨(some 6), none, .q (.mv (.t 16)), []⟩,
    ⟨(some 7), none, .q (.mv (.t 17)), []⟩]
def c35_7 : ACode := .ops [
    ⟨(some 19), none, .q (.mv (.t 6)), []⟩,
    ⟨(some 20), none, .q (.mv (.t 7)), []⟩,
    ⟨(some 21), none, .q (.mv (.t 1)), []⟩,
    ⟨(some 22), none, .e (.call 39 [(.t 21)]), []⟩,
    ⟨(some 23), none, .e (.call 51 [(.t 19), (.t 20), (.t 22)]), []⟩,
    ⟨(some 18), none, .q (.mv (.t 23)), []⟩,
    ⟨(some 24), none, .q (.ext 0 (.t 18)), []⟩,
    ⟨(some 25), none, .q (.ext 1 (.t 18)), []⟩,
    ⟨(some 8), none, .q (.mv (.t 24)), []⟩,
    ⟨(some 9), none, .q (.mv (.t 25)), []⟩]
def c35_8 : ACode := .ops [
    ⟨(some 26), none, .q (.mv (.t 9)), []⟩,
    ⟨(some 27), none, .q (.un .not (.t 26)), []⟩]
def c35_9 : ACode := .ops [
    ⟨(some 4), none, .q (.mv (.v (.int .i64 0))), []⟩,
    ⟨(some 5), none, .q (.mv (.v (.bool false))), []⟩]
def c35_10 : ACode := .seq c35_9 .ret
def c35_11 : ACode := .cond (.t 27) c35_10 .skip
def c35_12 : ACode := .seq c35_8 c35_11
def c35_13 : ACode := .ops [
    ⟨(some 28), none, .q (.mv (.t 0)), []⟩,
    ⟨(some 29), none, .q (.bin .lss (.t 28) (.v (.int .i64 0))), []⟩,
    ⟨(some 30), none, .q (.mv (.t 1)), []⟩,
    ⟨(some 31), none, .q (.bin .lss (.t 30) (.v (.int .i64 0))), []⟩,
    ⟨(some 32), none, .q (.eq .b true (.t 29) (.t 31)), []⟩,
    ⟨(some 33), none, .q (.mv (.t 8)), []⟩,
    ⟨(some 34), none, .e (.call 38 [(.t 32), (.v (.int .u64 0)), (.t 33)]), []⟩,
    ⟨(some 35), none, .q (.ext 0 (.t 34)), []⟩,
    ⟨(some 36), none, .q (.ext 1 (.t 34)), []⟩,
    ⟨(some 4), none, .q (.mv (.t 35)), []⟩,
    ⟨(some 5), none, .q (.mv (.t 36)), []⟩]
def c35_14 : ACode := .seq c35_13 .ret
def c35_15 : ACode := .seq c35_12 c35_14
def c35_16 : ACode := .seq c35_7 c35_15
def c35_17 : ACode := .seq c35_6 c35_16
def c35_18 : ACode := .seq c35_5 c35_17
def c35_19 : ACode := .seq c35_0 c35_18
@[go_sem] theorem c35_0_wp (P : Program) (Q : APost) (a : AFr) (σ : ASt) : c35_0.wp P Q a σ = ACode.wp P (.ops [
    ⟨(some 4), none, .q (.mv (.v (.int .i64 0))), []⟩,
    ⟨(some 5), none, .q (.mv (.v (.bool false))), []⟩]) Q a σ := id rfl
@[go_sem] theorem c35_1_wp (P : Program) (Q : APost) (a : AFr) (σ : ASt) : c35_1.wp P Q a σ = ACode.wp P (.ops [
    ⟨(some 10), none, .q (.mv (.t 1)), []⟩,
    ⟨(some 11), none, .q (.bin .eql (.t 10) (.v (.int .i64 0))), []⟩]) Q a σ := id rfl
@[go_sem] theorem c35_2_wp (P : Program) (Q : APost) (a : AFr) (σ : ASt) : c35_2.wp P Q a σ = ACode.wp P (.ops [
    ⟨(some 4), none, .q (.mv (.v (.int .i64 0))), []⟩,
    ⟨(some 5), none, .q (.mv (.v (.bool false))), []⟩]) Q a σ := id rfl
@[go_sem] theorem c35_3_wp (P : Program) (Q : APost) (a : AFr) (σ : ASt) : c35_3.wp P Q a σ = ACode.wp P (.seq c35_2 .ret) Q a σ := id rfl
@[go_sem] theorem c35_4_wp (P : Program) (Q : APost) (a : AFr) (σ : ASt) : c35_4.wp P Q a σ = ACode.wp P (.cond (.t 11) c35_3 .skip) Q a σ := id rfl
@[go_sem] theorem c35_5_wp (P : Program) (Q : APost) (a : AFr) (σ : ASt) : c35_5.wp P Q a σ = ACode.wp P (.seq c35_1 c35_4) Q a σ := id rfl
@[go_sem] theorem c35_6_wp (P : Program) (Q : APost) (a : AFr) (σ : ASt) : c35_6.wp P Q a σ = ACode.wp P (.ops [
    ⟨(some 13), none, .q (.mv (.t 0)), []⟩,
    ⟨(some 14), none, .e (.call 39 [(.t 13)]), []⟩,
    ⟨(some 15), none, .e (.call 43 [(.t 14), (.v (.int .u64 10000))]), []⟩,
    ⟨(some 12), none, .q (.mv (.t 15)), []⟩,
    ⟨(some 16), none, .q (.ext 0 (.t 12)), []⟩,
    ⟨(some 17), none, .q (.ext 1 (.t 12)), []⟩,
    ⟨(some 6), none, .q (.mv (.t 16)), []⟩,
    ⟨(some 7), none, .q (.mv (.t 17)), []⟩]) Q a σ := id rfl
@[go_sem] theorem c35_7_wp (P : Program) (Q : APost) (a : AFr) (σ : ASt) : c35_7.wp P Q a σ = ACode.wp P (.ops [
    ⟨(some 19), none, .q (.mv (.t 6)), []⟩,
    ⟨(some 20), none, .q (.mv (.t 7)), []⟩,
    ⟨(some 21), none, .q (.mv (.t 1)), []⟩,
    ⟨(some 22), none, .e (.call 39 [(.t 21)]), []⟩,
    ⟨(some 23), none, .e (.call 51 [(.t 19), (.t 20), (.t 22)]), []⟩,
    ⟨(some 18), none, .q (.mv (.t 23)), []⟩,
    ⟨(some 24), none, .q (.ext 0 (.t 18)), []⟩,
    ⟨(some 25), none, .q (.ext 1 (.t 18)), []⟩,
    ⟨(some 8), none, .q (.mv (.t 24)), []⟩,
    ⟨(some 9), none, .q (.mv (.t 25)), []⟩]) Q a σ := id rfl
@[go_sem] theorem c35_8_wp (P : Program) (Q : APost) (a : AFr) (σ : ASt) : c35_8.wp P Q a σ = ACode.wp P (.ops [
    ⟨(some 26), none, .q (.mv (.t 9)), []⟩,
    ⟨(some 27), none, .q (.un .not (.t 26)), []⟩]) Q a σ := id rfl
@[go_sem] theorem c35_9_wp (P : Program) (Q : APost) (a : AFr) (σ : ASt) : c35_9.wp P Q a σ = ACode.wp P (.ops [
    ⟨(some 4), none, .q (.mv (.v (.int .i64 0))), []⟩,
    ⟨(some 5), none, .q (.mv (.v (.bool false))), []⟩]) Q a σ := id rfl
@[go_sem] theorem c35_10_wp (P : Program) (Q : APost) (a : AFr) (σ : ASt) : c35_10.wp P Q a σ = ACode.wp P (.seq c35_9 .ret) Q a σ := id rfl
@[go_sem] theorem c35_11_wp (P : Program) (Q : APost) (a : AFr) (σ : ASt) : c35_11.wp P Q a σ = ACode.wp P (.cond (.t 27) c35_10 .skip) Q a σ := id rfl
@[go_sem] theorem c35_12_wp (P : Program) (Q : APost) (a : AFr) (σ : ASt) : c35_12.wp P Q a σ = ACode.wp P (.seq c35_8 c35_11) Q a σ := id rfl
@[go_sem] theorem c35_13_wp (P : Program) (Q : APost) (a : AFr) (σ : ASt) : c35_13.wp P Q a σ = ACode.wp P (.ops [
    ⟨(some 28), none, .q (.mv (.t 0)), []⟩,
    ⟨(some 29), none, .q (.bin .lss (.t 28) (.v (.int .i64 0))), []⟩,
    ⟨(some 30), none, .q (.mv (.t 1)), []⟩,
    ⟨(some 31), none, .q (.bin .lss (.t 30) (.v (.int .i64 0))), []⟩,
    ⟨(some 32), none, .q (.eq .b true (.t 29) (.t 31)), []⟩,
    ⟨(some 33), none, .q (.mv (.t 8)), []⟩,
    ⟨(some 34), none, .e (.call 38 [(.t 32), (.v (.int .u64 0)), (.t 33)]), []⟩,
    ⟨(some 35), none, .q (.ext 0 (.t 34)), []⟩,
    ⟨(some 36), none, .q (.ext 1 (.t 34)), []⟩,
    ⟨(some 4), none, .q (.mv (.t 35)), []⟩,
    ⟨(some 5), none, .q (.mv (.t 36)), []⟩]) Q a σ := id rfl
@[go_sem] theorem c35_14_wp (P : Program) (Q : APost) (a : AFr) (σ : ASt) : c35_14.wp P Q a σ = ACode.wp P (.seq c35_13 .ret) Q a σ := id rfl
@[go_sem] theorem c35_15_wp (P : Program) (Q : APost) (a : AFr) (σ : ASt) : c35_15.wp P Q a σ = ACode.wp P (.seq c35_12 c35_14) Q a σ := id rfl
@[go_sem] theorem c35_16_wp (P : Program) (Q : APost) (a : AFr) (σ : ASt) : c35_16.wp P Q a σ = ACode.wp P (.seq c35_7 c35_15) Q a σ := id rfl
@[go_sem] theorem c35_17_wp (P : Program) (Q : APost) (a : AFr) (σ : ASt) : c35_17.wp P Q a σ = ACode.wp P (.seq c35_6 c35_16) Q a σ := id rfl
@[go_sem] theorem c35_18_wp (P : Program) (Q : APost) (a : AFr) (σ : ASt) : c35_18.wp P Q a σ = ACode.wp P (.seq c35_5 c35_17) Q a σ := id rfl
@[go_sem] theorem c35_19_wp (P : Program) (Q : APost) (a : AFr) (σ : ASt) : c35_19.wp P Q a σ = ACode.wp P (.seq c35_0 c35_18) Q a σ := id rfl
def c35 : AFn := ⟨37, [.t 4, .t 5], c35_19⟩
set_option maxRecDepth 100000 in
theorem c35_ok : compF Tryd.prog Tryd.f35 = some c35 := by kernel_rfl
theorem a35 {args : List AV} {σ : ASt} {R : AV → ASt → Prop} (hl : args.length ≤ 37) (h : c35_19.wp Tryd.prog (RetQ [.t 4, .t 5] R) (init args) σ) : ACalls Tryd.prog 35 args σ R := acalls_of Tryd.func35 c35_ok hl h

/-! 37: strings.Cut -/
def c37_0 : ACode := .ops [
    ⟨(some 4), none, .q (.mv (.v (.str []))), []⟩,
    ⟨(some 5), none, .q (.mv (.v (.str []))), []⟩,
    ⟨(some 6), none, .q (.mv (.v (.bool false))), []⟩]
def c37_1 : ACode := .ops [
    ⟨(some 7), none, .q (.mv (.t 0)), []⟩,
    ⟨(some 8), none, .q (.mv (.t 1)), []⟩,
    ⟨(some 9), none, .e (.call 53 [(.t 7), (.t 8)]), []⟩,
    ⟨(some 10), none, .q (.ext 0 (.t 9)), []⟩,
    ⟨(some 11), none, .q (.ext 1 (.t 9)), []⟩,
    ⟨(some 12), none, .q (.ext 2 (.t 9)), []⟩,
    ⟨(some 4), none, .q (.mv (.t 10)), []⟩,
    ⟨(some 5), none, .q (.mv (.t 11)), []⟩,
    ⟨(some 6), none, .q (.mv (.t 12)), []⟩]
def c37_2 : ACode := .seq c37_1 .ret
def c37_3 : ACode := .seq c37_0 c37_2
@[go_sem] theorem c37_0_wp (P : Program) (Q : APost) (a : AFr) (σ : ASt) : c37_0.wp P Q a σ = ACode.wp P (.ops [
    ⟨(some 4), none, .q (.mv (.v (.str []))), []⟩,
    ⟨(some 5), none, .q (.mv (.v (.str []))), []⟩,
    ⟨(some 6), none, .q (.mv (.v (.bool false))), []⟩]) Q a σ := id rfl
@[go_sem] theorem c37_1_wp (P : Program) (Q : APost) (a : AFr) (σ : ASt) : c37_1.wp P Q a σ = ACode.wp P (.ops [
    ⟨(some 7), none, .q (.mv (.t 0)), []⟩,
    ⟨(some 8), none, .q (.mv (.t 1)), []⟩,
    ⟨(some 9), none, .e (.call 53 [(.t 7), (.t 8)]), []⟩,
    ⟨(some 10), none, .q (.ext 0 (.t 9)), []⟩,
    ⟨(some 11), none, .q (.ext 1 (.t 9)), []⟩,
    ⟨(some 12), none, .q (.ext 2 (.t 9)), []⟩,
    ⟨(some 4), none, .q (.mv (.t 10)), []⟩,
    ⟨(some 5), none, .q (.mv (.t 11)), []⟩,
    ⟨(some 6), none, .q (.mv (.t 12)), []⟩]) Q a σ := id rfl
@[go_sem] theorem c37_2_wp (P : Program) (Q : APost) (a : AFr) (σ : ASt) : c37_2.wp P Q a σ = ACode.wp P (.seq c37_1 .ret) Q a σ := id rfl
@[go_sem] theorem c37_3_wp (P : Program) (Q : APost) (a : AFr) (σ : ASt) : c37_3.wp P Q a σ = ACode.wp P (.seq c37_0 c37_2) Q a σ := id rfl
def c37 : AFn := ⟨13, [.t 4, .t 5, .t 6], c37_3⟩
set_option maxRecDepth 100000 in
theorem c37_ok : compF Tryd.prog Tryd.f37 = some c37 := by kernel_rfl
theorem a37 {args : List AV} {σ : ASt} {R : AV → ASt → Prop} (hl : args.length ≤ 13) (h : c37_3.wp Tryd.prog (RetQ [.t 4, .t 5, .t 6] R) (init args) σ) : ACalls Tryd.prog 37 args σ R := acalls_of Tryd.func37 c37_ok hl h

/-! 38: tabular/deci.made -/
def c38_0 : ACode := .ops [
    ⟨(some 6), none, .q (.mv (.v (.int .i64 0))), []⟩,
    ⟨(some 7), none, .q (.mv (.v (.bool false))), []⟩]
def c38_1 : ACode := .ops [
    ⟨(some 8), none, .q (.mv (.t 1)), []⟩,
    ⟨(some 9), none, .q (.bin .gtr (.t 8) (.v (.int .u64 0))), []⟩,
    ⟨(some 10), none, .q (.mv (.t 9)), []⟩,
    ⟨(some 11), (some (10, false)), .q (.mv (.t 2)), []⟩,
    ⟨(some 12), (some (10, false)), .q (.bin .gtr (.t 11) (.v (.int .u64 999999999999999999))), []⟩,
    ⟨(some 13), none, .q (.pick (.t 10) (.v (.bool true)) (.t 12)), []⟩]
def c38_2 : ACode := .ops [
    ⟨(some 6), none, .q (.mv (.v (.int .i64 0))), []⟩,
    ⟨(some 7), none, .q (.mv (.v (.bool false))), []⟩]
def c38_3 : ACode := .seq c38_2 .ret
def c38_4 : ACode := .cond (.t 13) c38_3 .skip
def c38_5 : ACode := .seq c38_1 c38_4
def c38_6 : ACode := .ops [
    ⟨(some 14), none, .q (.mv (.t 0)), []⟩]
def c38_7 : ACode := .ops [
    ⟨(some 15), none, .q (.mv (.t 2)), []⟩,
    ⟨(some 16), none, .q (.conv .i64 (.t 15)), []⟩,
    ⟨(some 17), none, .q (.un .neg (.t 16)), []⟩,
    ⟨(some 6), none, .q (.mv (.t 17)), []⟩,
    ⟨(some 7), none, .q (.mv (.v (.bool true))), []⟩]
def c38_8 : ACode := .seq c38_7 .ret
def c38_9 : ACode := .cond (.t 14) c38_8 .skip
def c38_10 : ACode := .seq c38_6 c38_9
def c38_11 : ACode := .ops [
    ⟨(some 18), none, .q (.mv (.t 2)), []⟩,
    ⟨(some 19), none, .q (.conv .i64 (.t 18)), []⟩,
    ⟨(some 6), none, .q (.mv (.t 19)), []⟩,
    ⟨(some 7), none, .q (.mv (.v (.bool true))), []⟩]
def c38_12 : ACode := .seq c38_11 .ret
def c38_13 : ACode := .seq c38_10 c38_12
def c38_14 : ACode := .seq c38_5 c38_13
def c38_15 : ACode := .seq c38_0 c38_14
@[go_sem] theorem c38_0_wp (P : Program) (Q : APost) (a : AFr) (σ : ASt) : c38_0.wp P Q a σ = ACode.wp P (.ops [
    ⟨(some 6), none, .q (.mv (.v (.int .i64 0))), []⟩,
    ⟨(some 7), none, .q (.mv (.v (.bool false))), []⟩]) Q a σ := id rfl
@[go_sem] theorem c38_1_wp (P : Program) (Q : APost) (a : AFr) (σ : ASt) : c38_1.wp P Q a σ = ACode.wp P (.ops [
    ⟨(some 8), none, .q (.mv (.t 1)), []⟩,
    ⟨(some 9), none, .q (.bin .gtr (.t 8) (.v (.int .u64 0))), []⟩,
    ⟨(some 10), none, .q (.mv (.t 9)), []⟩,
    ⟨(some 11), (some (10, false)), .q (.mv (.t 2)), []⟩,
    ⟨(some 12), (some (10, false)), .q (.bin .gtr (.t 11) (.v (.int .u64 999999999999999999))), []⟩,
    ⟨(some 13), none, .q (.pick (.t 10) (.v (.bool true)) (.t 12)), []⟩]) Q a σ := id rfl
@[go_sem] theorem c38_2_wp (P : Program) (Q : APost) (a : AFr) (σ : ASt) : c38_2.wp P Q a σ = ACode.wp P (.ops [
    ⟨(some 6), none, .q (.mv (.v (.int .i64 0))), []⟩,
    ⟨(some 7), none, .q (.mv (.v (.bool false))), []⟩]) Q a σ := id rfl
@[go_sem] theorem c38_3_wp (P : Program) (Q : APost) (a : AFr) (σ : ASt) : c38_3.wp P Q a σ = ACode.wp P (.seq c38_2 .ret) Q a σ := id rfl
@[go_sem] theorem c38_4_wp (P : Program) (Q : APost) (a : AFr) (σ : ASt) : c38_4.wp P Q a σ = ACode.wp P (.cond (.t 13) c38_3 .skip) Q a σ := id rfl
@[go_sem] theorem c38_5_wp (P : Program) (Q : APost) (a : AFr) (σ : ASt) : c38_5.wp P Q a σ = ACode.wp P (.seq c38_1 c38_4) Q a σ := id rfl
@[go_sem] theorem c38_6_wp (P : Program) (Q : APost) (a : AFr) (σ : ASt) : c38_6.wp P Q a σ = ACode.wp P (.ops [
    ⟨(some 14), none, .q (.mv (.t 0)), []⟩]) Q a σ := id rfl
@[go_sem] theorem c38_7_wp (P : Program) (Q : APost) (a : AFr) (σ : ASt) : c38_7.wp P Q a σ = ACode.wp P (.ops [
    ⟨(some 15), none, .q (.mv (.t 2)), []⟩,
    ⟨(some 16), none, .q (.conv .i64 (.t 15)), []⟩,
    ⟨(some 17), none, .q (.un .neg (.t 16)), []⟩,
    ⟨(some 6), none, .q (.mv (.t 17)), []⟩,
    ⟨(some 7), none, .q (.mv (.v (.bool true))), []⟩]) Q a σ := id rfl
@[go_sem] theorem c38_8_wp (P : Program) (Q : APost) (a : AFr) (σ : ASt) : c38_8.wp P Q a σ = ACode.wp P (.seq c38_7 .ret) Q a σ := id rfl
@[go_sem] theorem c38_9_wp (P : Program) (Q : APost) (a : AFr) (σ : ASt) : c38_9.wp P Q a σ = ACode.wp P (.cond (.t 14) c38_8 .skip) Q a σ := id rfl
@[go_sem] theorem c38_10_wp (P : Program) (Q : APost) (a : AFr) (σ : ASt) : c38_10.wp P Q a σ = ACode.wp P (.seq c38_6 c38_9) Q a σ := id rfl
@[go_sem] theorem c38_11_wp (P : Program) (Q : APost) (a : AFr) (σ : ASt) : c38_11.wp P Q a σ = ACode.wp P (.ops [
    ⟨(some 18), none, .q (.mv (.t 2)), []⟩,
    ⟨(some 19), none, .q (.conv .i64 (.t 18)), []⟩,
    ⟨(some 6), none, .q (.mv (.t 19)), []⟩,
    ⟨(some 7), none, .q (.mv (.v (.bool true))), []⟩]) Q a σ := id rfl
@[go_sem] theorem c38_12_wp (P : Program) (Q : APost) (a : AFr) (σ : ASt) : c38_12.wp P Q a σ = ACode.wp P (.seq c38_11 .ret) Q a σ := id rfl
@[go_sem] theorem c38_13_wp (P : Program) (Q : APost) (a : AFr) (σ : ASt) : c38_13.wp P Q a σ = ACode.wp P (.seq c38_10 c38_12) Q a σ := id rfl
@[go_sem] theorem c38_14_wp (P : Program) (Q : APost) (a : AFr) (σ : ASt) : c38_14.wp P Q a σ = ACode.wp P (.seq c38_5 c38_13) Q a σ := id rfl
@[go_sem] theorem c38_15_wp (P : Program) (Q : APost) (a : AFr) (σ : ASt) : c38_15.wp P Q a σ = ACode.wp P (.seq c38_0 c38_14) Q a σ := id rfl
def c38 : AFn := ⟨20, [.t 6, .t 7], c38_15⟩
set_option maxRecDepth 100000 in
theorem c38_ok : compF Tryd.prog Tryd.f38 = some c38 := by kernel_rfl
theorem a38 {args : List AV} {σ : ASt} {R : AV → ASt → Prop} (hl : args.length ≤ 20) (h : c38_15.wp Tryd.prog (RetQ [.t 6, .t 7] R) (init args) σ) : ACalls Tryd.prog 38 args σ R := acalls_of Tryd.func38 c38_ok hl h

/-! 39: tabular/deci.size -/
def c39_0 : ACode := .ops [
    ⟨(some 2), none, .q (.mv (.v (.int .u64 0))), []⟩]
def c39_1 : ACode := .ops [
    ⟨(some 3), none, .q (.mv (.t 0)), []⟩,
    ⟨(some 4), none, .q (.bin .lss (.t 3) (.v (.int .i64 0))), []⟩]
def c39_2 : ACode := .ops [
    ⟨(some 5), none, .q (.mv (.t 0)), []⟩,
    ⟨(some 6), none, .q (.un .neg (.t 5)), []⟩,
    ⟨(some 7), none, .q (.conv .u64 (.t 6)), []⟩,
    ⟨(some 2), none, .q (.mv (.t 7)), []⟩]
def c39_3 : ACode := .seq c39_2 .ret
def c39_4 : ACode := .cond (.t 4) c39_3 .skip
def c39_5 : ACode := .seq c39_1 c39_4
def c39_6 : ACode := .ops [
    ⟨(some 8), none, .q (.mv (.t 0)), []⟩,
    ⟨(some 9), none, .q (.conv .u64 (.t 8)), []⟩,
    ⟨(some 2), none, .q (.mv (.t 9)), []⟩]
def c39_7 : ACode := .seq c39_6 .ret
def c39_8 : ACode := .seq c39_5 c39_7
def c39_9 : ACode := .seq c39_0 c39_8
@[go_sem] theorem c39_0_wp (P : Program) (Q : APost) (a : AFr) (σ : ASt) : c39_0.wp P Q a σ = ACode.wp P (.ops [
    ⟨(some 2), none, .q (.mv (.v (.int .u64 0))), []⟩]) Q a σ := id rfl
@[go_sem] theorem c39_1_wp (P : Program) (Q : APost) (a : AFr) (σ : ASt) : c39_1.wp P Q a σ = ACode.wp P (.ops [
    ⟨(some 3), none, .q (.mv (.t 0)), []⟩,
    ⟨(some 4), none, .q (.bin .lss (.t 3) (.v (.int .i64 0))), []⟩]) Q a σ := id rfl
@[go_sem] theorem c39_2_wp (P : Program) (Q : APost) (a : AFr) (σ : ASt) : c39_2.wp P Q a σ = ACode.wp P (.ops [
    ⟨(some 5), none, .q (.mv (.t 0)), []⟩,
    ⟨(some 6), none, .q (.un .neg (.t 5)), []⟩,
    ⟨(some 7), none, .q (.conv .u64 (.t 6)), []⟩,
    ⟨(some 2), none, .q (.mv (.t 7)), []⟩]) Q a σ := id rfl
@[go_sem] theorem c39_3_wp (P : Program) (Q : APost) (a : AFr) (σ : ASt) : c39_3.wp P Q a σ = ACode.wp P (.seq c39_2 .ret) Q a σ := id rfl
@[go_sem] theorem c39_4_wp (P : Program) (Q : APost) (a : AFr) (σ : ASt) : c39_4.wp P Q a σ = ACode.wp P (.cond (.t 4) c39_3 .skip) Q a σ := id rfl
@[go_sem] theorem c39_5_wp (P : Program) (Q : APost) (a : AFr) (σ : ASt) : c39_5.wp P Q a σ = ACode.wp P (.seq c39_1 c39_4) Q a σ := id rfl
@[go_sem] theorem c39_6_wp (P : Program) (Q : APost) (a : AFr) (σ : ASt) : c39_6.wp P Q a σ = ACode.wp P (.ops [
    ⟨(some 8), none, .q (.mv (.t 0)), []⟩,
    ⟨(some 9), none, .q (.conv .u64 (.t 8)), []⟩,
    ⟨(some 2), none, .q (.mv (.t 9)), []⟩]) Q a σ := id rfl
@[go_sem] theorem c39_7_wp (P : Program) (Q : APost) (a : AFr) (σ : ASt) : c39_7.wp P Q a σ = ACode.wp P (.seq c39_6 .ret) Q a σ := id rfl
@[go_sem] theorem c39_8_wp (P : Program) (Q : APost) (a : AFr) (σ : ASt) : c39_8.wp P Q a σ = ACode.wp P (.seq c39_5 c39_7) Q a σ := id rfl
@[go_sem] theorem c39_9_wp (P : Program) (Q : APost) (a : AFr) (σ : ASt) : c39_9.wp P Q a σ = ACode.wp P (.seq c39_0 c39_8) Q a σ := id rfl
def c39 : AFn := ⟨10, [.t 2], c39_9⟩
set_option maxRecDepth 100000 in
theorem c39_ok : compF Tryd.prog Tryd.f39 = some c39 := by kernel_rfl
theorem a39 {args : List AV} {σ : ASt} {R : AV → ASt → Prop} (hl : args.length ≤ 10) (h : c39_9.wp Tryd.prog (RetQ [.t 2] R) (init args) σ) : ACalls Tryd.prog 39 args σ R := acalls_of Tryd.func39 c39_ok hl h

/-! 40: strconv.FormatUint -/
def c40_0 : ACode := .ops [
    ⟨(some 4), none, .q (.mv (.v (.str []))), []⟩]
def c40_1 : ACode := .ops [
    ⟨(some 5), none, .q (.mv (.t 0)), []⟩,
    ⟨(some 6), none, .q (.mv (.t 1)), []⟩,
    ⟨(some 7), none, .e (.call 54 [(.t 5), (.t 6)]), []⟩,
    ⟨(some 4), none, .q (.mv (.t 7)), []⟩]
def c40_2 : ACode := .seq c40_1 .ret
def c40_3 : ACode := .seq c40_0 c40_2
@[go_sem] theorem c40_0_wp (P : Program) (Q : APost) (a : AFr) (σ : ASt) : c40_0.wp P Q a σ = ACode.wp P (.ops [
    ⟨(some 4), none, .q (.mv (.v (.str []))), []⟩]) Q a σ := id rfl
@[go_sem] theorem c40_1_wp (P : Program) (Q : APost) (a : AFr) (σ : ASt) : c40_1.wp P Q a σ = ACode.wp P (.ops [
    ⟨(some 5), none, .q (.mv (.t 0)), []⟩,
    ⟨(some 6), none, .q (.mv (.t 1)), []⟩,
    ⟨(some 7), none, .e (.call 54 [(.t 5), (.t 6)]), []⟩,
    ⟨(some 4), none, .q (.mv (.t 7)), []⟩]) Q a σ := id rfl
@[go_sem] theorem c40_2_wp (P : Program) (Q : APost) (a : AFr) (σ : ASt) : c40_2.wp P Q a σ = ACode.wp P (.seq c40_1 .ret) Q a σ := id rfl
@[go_sem] theorem c40_3_wp (P : Program) (Q : APost) (a : AFr) (σ : ASt) : c40_3.wp P Q a σ = ACode.wp P (.seq c40_0 c40_2) Q a σ := id rfl
def c40 : AFn := ⟨8, [.t 4], c40_3⟩
set_option maxRecDepth 100000 in
theorem c40_ok : compF Tryd.prog Tryd.f40 = some c40 := by kernel_rfl
theorem a40 {args : List AV} {σ : ASt} {R : AV → ASt → Prop} (hl : args.length ≤ 8) (h : c40_3.wp Tryd.prog (RetQ [.t 4] R) (init args) σ) : ACalls Tryd.prog 40 args σ R := acalls_of Tryd.func40 c40_ok hl h

/-! 42: tabular/deci.unit -/
def c42_0 : ACode := .ops [
    ⟨(some 2), none, .q (.mv (.v (.int .u64 0))), []⟩,
    ⟨(some 3), none, .q (.mv (.v (.bool false))), []⟩]
def c42_1 : ACode := .ops [
    ⟨(some 4), none, .q (.mv (.t 0)), []⟩,
    ⟨(some 5), none, .q (.bin .geq (.t 4) (.v (.int .i64 4))), []⟩,
    ⟨(some 6), none, .q (.mv (.t 5)), []⟩,
    ⟨(some 7), (some (6, false)), .q (.mv (.t 0)), []⟩,
    ⟨(some 8), (some (6, false)), .q (.bin .lss (.t 7) (.v (.int .i64 (-14)))), []⟩,
    ⟨(some 9), none, .q (.pick (.t 6) (.v (.bool true)) (.t 8)), []⟩]
def c42_2 : ACode := .ops [
    ⟨(some 2), none, .q (.mv (.v (.int .u64 0))), []⟩,
    ⟨(some 3), none, .q (.mv (.v (.bool false))), []⟩]
def c42_3 : ACode := .seq c42_2 .ret
def c42_4 : ACode := .cond (.t 9) c42_3 .skip
def c42_5 : ACode := .seq c42_1 c42_4
def c42_6 : ACode := .ops [
    ⟨(some 10), none, .q (.ld none (.v (.ptr 0 0))), []⟩,
    ⟨(some 11), none, .q (.mv (.t 0)), []⟩,
    ⟨(some 12), none, .q (.bin .sub (.v (.int .i64 4)) (.t 11)), []⟩,
    ⟨(some 13), none, .q (.ia 1 (.t 10) (.t 12)), []⟩,
    ⟨(some 14), none, .q (.ld none (.t 13)), []⟩,
    ⟨(some 2), none, .q (.mv (.t 14)), []⟩,
    ⟨(some 3), none, .q (.mv (.v (.bool true))), []⟩]
def c42_7 : ACode := .seq c42_6 .ret
def c42_8 : ACode := .seq c42_5 c42_7
def c42_9 : ACode := .seq c42_0 c42_8
@[go_sem] theorem c42_0_wp (P : Program) (Q : APost) (a : AFr) (σ : ASt) : c42_0.wp P Q a σ = ACode.wp P (.ops [
    ⟨(some 2), none, .q (.mv (.v (.int .u64 0))), []⟩,
    ⟨(some 3), none, .q (.mv (.v (.bool false))), []⟩]) Q a σ := id rfl
@[go_sem] theorem c42_1_wp (P : Program) (Q : APost) (a : AFr) (σ : ASt) : c42_1.wp P Q a σ = ACode.wp P (.ops [
    ⟨(some 4), none, .q (.mv (.t 0)), []⟩,
    ⟨(some 5), none, .q (.bin .geq (.t 4) (.v (.int .i64 4))), []⟩,
    ⟨(some 6), none, .q (.mv (.t 5)), []⟩,
    ⟨(some 7), (some (6, false)), .q (.mv (.t 0)), []⟩,
    ⟨(some 8), (some (6, false)), .q (.bin .lss (.t 7) (.v (.int .i64 (-14)))), []⟩,
    ⟨(some 9), none, .q (.pick (.t 6) (.v (.bool true)) (.t 8)), []⟩]) Q a σ := id rfl
@[go_sem] theorem c42_2_wp (P : Program) (Q : APost) (a : AFr) (σ : ASt) : c42_2.wp P Q a σ = ACode.wp P (.ops [
    ⟨(some 2), none, .q (.mv (.v (.int .u64 0))), []⟩,
    ⟨(some 3), none, .q (.mv (.v (.bool false))), []⟩]) Q a σ := id rfl
@[go_sem] theorem c42_3_wp (P : Program) (Q : APost) (a : AFr) (σ : ASt) : c42_3.wp P Q a σ = ACode.wp P (.seq c42_2 .ret) Q a σ := id rfl
@[go_sem] theorem c42_4_wp (P : Program) (Q : APost) (a : AFr) (σ : ASt) : c42_4.wp P Q a σ = ACode.wp P (.cond (.t 9) c42_3 .skip) Q a σ := id rfl
@[go_sem] theorem c42_5_wp (P : Program) (Q : APost) (a : AFr) (σ : ASt) : c42_5.wp P Q a σ = ACode.wp P (.seq c42_1 c42_4) Q a σ := id rfl
@[go_sem] theorem c42_6_wp (P : Program) (Q : APost) (a : AFr) (σ : ASt) : c42_6.wp P Q a σ = ACode.wp P (.ops [
    ⟨(some 10), none, .q (.ld none (.v (.ptr 0 0))), []⟩,
    ⟨(some 11), none, .q (.mv (.t 0)), []⟩,
    ⟨(some 12), none, .q (.bin .sub (.v (.int .i64 4)) (.t 11)), []⟩,
    ⟨(some 13), none, .q (.ia 1 (.t 10) (.t 12)), []⟩,
    ⟨(some 14), none, .q (.ld none (.t 13)), []⟩,
    ⟨(some 2), none, .q (.mv (.t 14)), []⟩,
    ⟨(some 3), none, .q (.mv (.v (.bool true))), []⟩]) Q a σ := id rfl
@[go_sem] theorem c42_7_wp (P : Program) (Q : APost) (a : AFr) (σ : ASt) : c42_7.wp P Q a σ = ACode.wp P (.seq c42_6 .ret) Q a σ := id rfl
@[go_sem] theorem c42_8_wp (P : Program) (Q : APost) (a : AFr) (σ : ASt) : c42_8.wp P Q a σ = ACode.wp P (.seq c42_5 c42_7) Q a σ := id rfl
@[go_sem] theorem c42_9_wp (P : Program) (Q : APost) (a : AFr) (σ : ASt) : c42_9.wp P Q a σ = ACode.wp P (.seq c42_0 c42_8) Q a σ := id rfl
def c42 : AFn := ⟨15, [.t 2, .t 3], c42_9⟩
set_option maxRecDepth 100000 in
theorem c42_ok : compF Tryd.prog Tryd.f42 = some c42 := by kernel_rfl
theorem a42 {args : List AV} {σ : ASt} {R : AV → ASt → Prop} (hl : args.length ≤ 15) (h : c42_9.wp Tryd.prog (RetQ [.t 2, .t 3] R) (init args) σ) : ACalls Tryd.prog 42 args σ R := acalls_of Tryd.func42 c42_ok hl h

/-! 51: tabular/deci.quot -/
def c51_0 : ACode := .ops [
    ⟨(some 6), none, .q (.mv (.v (.int .u64 0))), []⟩,
    ⟨(some 7), none, .q (.mv (.v (.bool false))), []⟩]
def c51_1 : ACode := .ops [
    ⟨(some 10), none, .q (.mv (.t 0)), []⟩,
    ⟨(some 11), none, .q (.mv (.t 2)), []⟩,
    ⟨(some 12), none, .q (.bin .geq (.t 10) (.t 11)), []⟩]
def c51_2 : ACode := .ops [
    ⟨(some 6), none, .q (.mv (.v (.int .u64 0))), []⟩,
    ⟨(some 7), none, .q (.mv (.v (.bool false))), []⟩]
def c51_3 : ACode := .seq c51_2 .ret
def c51_4 : ACode := .cond (.t 12) c51_3 .skip
def c51_5 : ACode := .seq c51_1 c51_4
def c51_6 : ACode := .ops [
    ⟨(some 14), none, .q (.mv (.t 0)), []⟩,
    ⟨(some 15), none, .q (.mv (.t 1)), []⟩,
    ⟨(some 16), none, .q (.mv (.t 2)), []⟩,
    ⟨(some 17), none, .e (.call 60 [(.t 14), (.t 15), (.t 16)]), []⟩,
    ⟨(some 13), none, .q (.mv (.t 17)), []⟩,
    ⟨(some 18), none, .q (.ext 0 (.t 13)), []⟩,
    ⟨(some 19), none, .q (.ext 1 (.t 13)), []⟩,
    ⟨(some 8), none, .q (.mv (.t 18)), []⟩,
    ⟨(some 9), none, .q (.mv (.t 19)), []⟩]
def c51_7 : ACode := .ops [
    ⟨(some 20), none, .q (.mv (.t 9)), []⟩,
    ⟨(some 21), none, .q (.mv (.t 2)), []⟩,
    ⟨(some 22), none, .q (.mv (.t 9)), []⟩,
    ⟨(some 23), none, .q (.bin .sub (.t 21) (.t 22)), []⟩,
    ⟨(some 24), none, .q (.bin .geq (.t 20) (.t 23)), []⟩]
def c51_8 : ACode := .ops [
    ⟨(some 25), none, .q (.mv (.t 8)), []⟩,
    ⟨(some 26), none, .q (.bin .add (.t 25) (.v (.int .u64 1))), []⟩,
    ⟨(some 8), none, .q (.mv (.t 26)), []⟩]
def c51_9 : ACode := .cond (.t 24) c51_8 .skip
def c51_10 : ACode := .seq c51_7 c51_9
def c51_11 : ACode := .ops [
    ⟨(some 27), none, .q (.mv (.t 8)), []⟩,
    ⟨(some 28), none, .q (.mv (.t 8)), []⟩,
    ⟨(some 29), none, .q (.bin .leq (.t 28) (.v (.int .u64 999999999999999999))), []⟩,
    ⟨(some 6), none, .q (.mv (.t 27)), []⟩,
    ⟨(some 7), none, .q (.mv (.t 29)), []⟩]
def c51_12 : ACode := .seq c51_11 .ret
def c51_13 : ACode := .seq c51_10 c51_12
def c51_14 : ACode := .seq c51_6 c51_13
def c51_15 : ACode := .seq c51_5 c51_14
def c51_16 : ACode := .seq c51_0 c51_15
@[go_sem] theorem c51_0_wp (P : Program) (Q : APost) (a : AFr) (σ : ASt) : c51_0.wp P Q a σ = ACode.wp P (.ops [
    ⟨(some 6), none, .q (.mv (.v (.int .u64 0))), []⟩,
    ⟨(some 7), none, .q (.mv (.v (.bool false))), []⟩]) Q a σ := id rfl
@[go_sem] theorem c51_1_wp (P : Program) (Q : APost) (a : AFr) (σ : ASt) : c51_1.wp P Q a σ = ACode.wp P (.ops [
    ⟨(some 10), none, .q (.mv (.t 0)), []⟩,
    ⟨(some 11), none, .q (.mv (.t 2)), []⟩,
    ⟨(some 12), none, .q (.bin .geq (.t 10) (.t 11)), []⟩]) Q a σ := id rfl
@[go_sem] theorem c51_2_wp (P : Program) (Q : APost) (a : AFr) (σ : ASt) : c51_2.wp P Q a σ = ACode.wp P (.ops [
    ⟨(some 6), none, .q (.mv (.v (.int .u64 0))), []⟩,
    ⟨(some 7), none, .q (.mv (.v (.bool false))), []⟩]) Q a σ := id rfl
@[go_sem] theorem c51_3_wp (P : Program) (Q : APost) (a : AFr) (σ : ASt) : c51_3.wp P Q a σ = ACode.wp P (.seq c51_2 .ret) Q a σ := id rfl
@[go_sem] theorem c51_4_wp (P : Program) (Q : APost) (a : AFr) (σ : ASt) : c51_4.wp P Q a σ = ACode.wp P (.cond (.t 12) c51_3 .skip) Q a σ := id rfl
@[go_sem] theorem c51_5_wp (P : Program) (Q : APost) (a : AFr) (σ : ASt) : c51_5.wp P Q a σ = ACode.wp P (.seq c51_1 c51_4) Q a σ := id rfl
@[go_sem] theorem c51_6_wp (P : Program) (Q : APost) (a : AFr) (σ : ASt) : c51_6.wp P Q a σ = ACode.wp P (.ops [
    ⟨(some 14), none, .q (.mv (.t 0)), []⟩,
    ⟨(some 15), none, .q (.mv (.t 1)), []⟩,
    ⟨(some 16), none, .q (.mv (.t 2)), []⟩,
    ⟨(some 17), none, .e (.call 60 [(.t 14), (.t 15), (.t 16)]), []⟩,
    ⟨(some 13), none, .q (.mv (.t 17)), []⟩,
    ⟨(some 18), none, .q (.ext 0 (.t 13)), []⟩,
    ⟨(some 19), none, .q (.ext 1 (.t 13)), []⟩,
    ⟨(some 8), none, .q (.mv (.t 18)), []⟩,
    ⟨(some 9), none, .q (.mv (.t 19)), []⟩]) Q a σ := id rfl
@[go_sem] theorem c51_7_wp (P : Program) (Q : APost) (a : AFr) (σ : ASt) : c51_7.wp P Q a σ = ACode.wp P (.ops [
    ⟨(some 20), none, .q (.mv (.t 9)), []⟩,
    ⟨(some 21), none, .q (.mv (.t 2)), []⟩,
    ⟨(some 22), none, .q (.mv (.t 9)), []⟩,
    ⟨(some 23), none, .q (.bin .sub (.t 21) (.t 22)), []⟩,
    ⟨(some 24), none, .q (.bin .geq (.t 20) (.t 23)), []⟩]) Q a σ := id rfl
@[go_sem] theorem c51_8_wp (P : Program) (Q : APost) (a : AFr) (σ : ASt) : c51_8.wp P Q a σ = ACode.wp P (.ops [
    ⟨(some 25), none, .q (.mv (.t 8)), []⟩,
    ⟨(some 26), none, .q (.bin .add (.t 25) (.v (.int .u64 1))), []⟩,
    ⟨(some 8), none, .q (.mv (.t 26)), []⟩]) Q a σ := id rfl
@[go_sem] theorem c51_9_wp (P : Program) (Q : APost) (a : AFr) (σ : ASt) : c51_9.wp P Q a σ = ACode.wp P (.cond (.t 24) c51_8 .skip) Q a σ := id rfl
@[go_sem] theorem c51_10_wp (P : Program) (Q : APost) (a : AFr) (σ : ASt) : c51_10.wp P Q a σ = ACode.wp P (.seq c51_7 c51_9) Q a σ := id rfl
@[go_sem] theorem c51_11_wp (P : Program) (Q : APost) (a : AFr) (σ : ASt) : c51_11.wp P Q a σ = ACode.wp P (.ops [
    ⟨(some 27), none, .q (.mv (.t 8)), []⟩,
    ⟨(some 28), none, .q (.mv (.t 8)), []⟩,
    ⟨(some 29), none, .q (.bin .leq (.t 28) (.v (.int .u64 999999999999999999))), []⟩,
    ⟨(some 6), none, .q (.mv (.t 27)), []⟩,
    ⟨(some 7), none, .q (.mv (.t 29)), []⟩]) Q a σ := id rfl
@[go_sem] theorem c51_12_wp (P : Program) (Q : APost) (a : AFr) (σ : ASt) : c51_12.wp P Q a σ = ACode.wp P (.seq c51_11 .ret) Q a σ := id rfl
@[go_sem] theorem c51_13_wp (P : Program) (Q : APost) (a : AFr) (σ : ASt) : c51_13.wp P Q a σ = ACode.wp P (.seq c51_10 c51_12) Q a σ := id rfl
@[go_sem] theorem c51_14_wp (P : Program) (Q : APost) (a : AFr) (σ : ASt) : c51_14.wp P Q a σ = ACode.wp P (.seq c51_6 c51_13) Q a σ := id rfl
@[go_sem] theorem c51_15_wp (P : Program) (Q : APost) (a : AFr) (σ : ASt) : c51_15.wp P Q a σ = ACode.wp P (.seq c51_5 c51_14) Q a σ := id rfl
@[go_sem] theorem c51_16_wp (P : Program) (Q : APost) (a : AFr) (σ : ASt) : c51_16.wp P Q a σ = ACode.wp P (.seq c51_0 c51_15) Q a σ := id rfl
def c51 : AFn := ⟨30, [.t 6, .t 7], c51_16⟩
set_option maxRecDepth 100000 in
theorem c51_ok : compF Tryd.prog Tryd.f51 = some c51 := by kernel_rfl
theorem a51 {args : List AV} {σ : ASt} {R : AV → ASt → Prop} (hl : args.length ≤ 30) (h : c51_16.wp Tryd.prog (RetQ [.t 6, .t 7] R) (init args) σ) : ACalls Tryd.prog 51 args σ R := acalls_of Tryd.func51 c51_ok hl h

/-! 53: internal/stringslite.Cut -/
def c53_0 : ACode := .ops [
    ⟨(some 4), none, .q (.mv (.v (.str []))), []⟩,
    ⟨(some 5), none, .q (.mv (.v (.str []))), []⟩,
    ⟨(some 6), none, .q (.mv (.v (.bool false))), []⟩]
def c53_1 : ACode := .ops [
    ⟨(some 8), none, .q (.mv (.t 0)), []⟩,
    ⟨(some 9), none, .q (.mv (.t 1)), []⟩,
    ⟨(some 10), none, .e (.call 62 [(.t 8), (.t 9)]), []⟩,
    ⟨(some 7), none, .q (.mv (.t 10)), []⟩]
def c53_2 : ACode := .ops [
    ⟨(some 11), none, .q (.mv (.t 7)), []⟩,
    ⟨(some 12), none, .q (.bin .geq (.t 11) (.v (.int .i64 0))), []⟩]
def c53_3 : ACode := .ops [
    ⟨(some 13), none, .q (.mv (.t 0)), []⟩,
    ⟨(some 14), none, .q (.mv (.t 7)), []⟩,
    ⟨(some 15), none, .q (.slto (true, 0) (.t 13) (.t 14)), []⟩,
    ⟨(some 16), none, .q (.mv (.t 0)), []⟩,
    ⟨(some 17), none, .q (.mv (.t 7)), []⟩,
    ⟨(some 18), none, .q (.mv (.t 1)), []⟩,
    ⟨(some 19), none, .q (.lenS (.t 18)), []⟩,
    ⟨(some 20), none, .q (.bin .add (.t 17) (.t 19)), []⟩,
    ⟨(some 21), none, .q (.slfrom (true, 0) (.t 16) (.t 20)), []⟩,
    ⟨(some 4), none, .q (.mv (.t 15)), []⟩,
    ⟨(some 5), none, .q (.mv (.t 21)), []⟩,
    ⟨(some 6), none, .q (.mv (.v (.bool true))), []⟩]
def c53_4 : ACode := .seq c53_3 .ret
def c53_5 : ACode := .cond (.t 12) c53_4 .skip
def c53_6 : ACode := .seq c53_2 c53_5
def c53_7 : ACode := .seq c53_1 c53_6
def c53_8 : ACode := .ops [
    ⟨(some 22), none, .q (.mv (.t 0)), []⟩,
    ⟨(some 4), none, .q (.mv (.t 22)), []⟩,
    ⟨(some 5), none, .q (.mv (.v (.str []))), []⟩,
    ⟨(some 6), none, .q (.mv (.v (.bool false))), []⟩]
def c53_9 : ACode := .seq c53_8 .ret
def c53_10 : ACode := .seq c53_7 c53_9
def c53_11 : ACode := .seq c53_0 c53_10
@[go_sem] theorem c53_0_wp (P : Program) (Q : APost) (a : AFr) (σ : ASt) : c53_0.wp P Q a σ = ACode.wp P (.ops [
    ⟨(some 4), none, .q (.mv (.v (.str []))), []⟩,
    ⟨(some 5), none, .q (.mv (.v (.str []))), []⟩,
    ⟨(some 6), none, .q (.mv (.v (.bool false))), []⟩]) Q a σ := id rfl
@[go_sem] theorem c53_1_wp (P : Program) (Q : APost) (a : AFr) (σ : ASt) : c53_1.wp P Q a σ = ACode.wp P (.ops [
    ⟨(some 8), none, .q (.mv (.t 0)), []⟩,
    ⟨(some 9), none, .q (.mv (.t 1)), []⟩,
    ⟨(some 10), none, .e (.call 62 [(.t 8), (.t 9)]), []⟩,
    ⟨(some 7), none, .q (.mv (.t 10)), []⟩]) Q a σ := id rfl
@[go_sem] theorem c53_2_wp (P : Program) (Q : APost) (a : AFr) (σ : ASt) : c53_2.wp P Q a σ = ACode.wp P (.ops [
    ⟨(some 11), none, .q (.mv (.t 7)), []⟩,
    ⟨(some 12), none, .q (.bin .geq (.t 11) (.v (.int .i64 0))), []⟩]) Q a σ := id rfl
@[go_sem] theorem c53_3_wp (P : Program) (Q : APost) (a : AFr) (σ : ASt) : c53_3.wp P Q a σ = ACode.wp P (.ops [
    ⟨(some 13), none, .q (.mv (.t 0)), []⟩,
    ⟨(some 14), none, .q (.mv (.t 7)), []⟩,
    ⟨(some 15), none, .q (.slto (true, 0) (.t 13) (.t 14)), []⟩,
    ⟨(some 16), none, .q (.mv (.t 0)), []⟩,
    ⟨(some 17), none, .q (.mv (.t 7)), []⟩,
    ⟨(some 18), none, .q (.mv (.t 1)), []⟩,
    ⟨(some 19), none, .q (.lenS (.t 18)), []⟩,
    ⟨(some 20), none, .q (.bin .add (.t 17) (.t 19)), []⟩,
    ⟨(some 21), none, .q (.slfrom (true, 0) (.t 16) (.t 20)), []⟩,
    ⟨(some 4), none, .q (.mv (.t 15)), []⟩,
    ⟨(some 5), none, .q (.mv (.t 21)), []⟩,
    ⟨(some 6), none, .q (.mv (.v (.bool true))), []⟩]) Q a σ := id rfl
@[go_sem] theorem c53_4_wp (P : Program) (Q : APost) (a : AFr) (σ : ASt) : c53_4.wp P Q a σ = ACode.wp P (.seq c53_3 .ret) Q a σ := id rfl
@[go_sem] theorem c53_5_wp (P : Program) (Q : APost) (a : AFr) (σ : ASt) : c53_5.wp P Q a σ = ACode.wp P (.cond (.t 12) c53_4 .skip) Q a σ := id rfl
@[go_sem] theorem c53_6_wp (P : Program) (Q : APost) (a : AFr) (σ : ASt) : c53_6.wp P Q a σ = ACode.wp P (.seq c53_2 c53_5) Q a σ := id rfl
@[go_sem] theorem c53_7_wp (P : Program) (Q : APost) (a : AFr) (σ : ASt) : c53_7.wp P Q a σ = ACode.wp P (.seq c53_1 c53_6) Q a σ := id rfl
@[go_sem] theorem c53_8_wp (P : Program) (Q : APost) (a : AFr) (σ : ASt) : c53_8.wp P Q a σ = ACode.wp P (.ops [
    ⟨(some 22), none, .q (.mv (.t 0)), []⟩,
    ⟨(some 4), none, .q (.mv (.t 22)), []⟩,
    ⟨(some 5), none, .q (.mv (.v (.str []))), []⟩,
    ⟨(some 6), none, .q (.mv (.v (.bool false))), []⟩]) Q a σ := id rfl
@[go_sem] theorem c53_9_wp (P : Program) (Q : APost) (a : AFr) (σ : ASt) : c53_9.wp P Q a σ = ACode.wp P (.seq c53_8 .ret) Q a σ := id rfl
@[go_sem] theorem c53_10_wp (P : Program) (Q : APost) (a : AFr) (σ : ASt) : c53_10.wp P Q a σ = ACode.wp P (.seq c53_7 c53_9) Q a σ := id rfl
@[go_sem] theorem c53_11_wp (P : Program) (Q : APost) (a : AFr) (σ : ASt) : c53_11.wp P Q a σ = ACode.wp P (.seq c53_0 c53_10) Q a σ := id rfl
def c53 : AFn := ⟨23, [.t 4, .t 5, .t 6], c53_11⟩
set_option maxRecDepth 100000 in
theorem c53_ok : compF Tryd.prog Tryd.f53 = some c53 := by kernel_rfl
theorem a53 {args : List AV} {σ : ASt} {R : AV → ASt → Prop} (hl : args.length ≤ 23) (h : c53_11.wp Tryd.prog (RetQ [.t 4, .t 5, .t 6] R) (init args) σ) : ACalls Tryd.prog 53 args σ R := acalls_of Tryd.func53 c53_ok hl h

/-! 60: math/bits.Div64 -/
def c60_0 : ACode := .ops [
    ⟨(some 6), none, .q (.mv (.v (.int .u64 0))), []⟩,
    ⟨(some 7), none, .q (.mv (.v (.int .u64 0))), []⟩]
def c60_1 : ACode := .ops [
    ⟨(some 19), none, .q (.mv (.t 2)), []⟩,
    ⟨(some 20), none, .q (.bin .eql (.t 19) (.v (.int .u64 0))), []⟩]
def c60_2 : ACode := .ops [
    ⟨(some 21), none, .q (.ld none (.v (.ptr 1 0))), []⟩,
    ⟨none, none, .e (.dead), []⟩]
def c60_3 : ACode := .cond (.t 20) c60_2 .skip
def c60_4 : ACode := .seq c60_1 c60_3
def c60_5 : ACode := .ops [
    ⟨(some 22), none, .q (.mv (.t 2)), []⟩,
    ⟨(some 23), none, .q (.mv (.t 0)), []⟩,
    ⟨(some 24), none, .q (.bin .leq (.t 22) (.t 23)), []⟩]
def c60_6 : ACode := .ops [
    ⟨(some 25), none, .q (.ld none (.v (.ptr 2 0))), []⟩,
    ⟨none, none, .e (.dead), []⟩]
def c60_7 : ACode := .cond (.t 24) c60_6 .skip
def c60_8 : ACode := .seq c60_5 c60_7
def c60_9 : ACode := .ops [
    ⟨(some 26), none, .q (.mv (.t 0)), []⟩,
    ⟨(some 27), none, .q (.bin .eql (.t 26) (.v (.int .u64 0))), []⟩]
def c60_10 : ACode := .ops [
    ⟨(some 28), none, .q (.mv (.t 1)), []⟩,
    ⟨(some 29), none, .q (.mv (.t 2)), []⟩,
    ⟨(some 30), none, .q (.bin .quo (.t 28) (.t 29)), []⟩,
    ⟨(some 31), none, .q (.mv (.t 1)), []⟩,
    ⟨(some 32), none, .q (.mv (.t 2)), []⟩,
    ⟨(some 33), none, .q (.bin .rem (.t 31) (.t 32)), []⟩,
    ⟨(some 6), none, .q (.mv (.t 30)), []⟩,
    ⟨(some 7), none, .q (.mv (.t 33)), []⟩]
def c60_11 : ACode := .seq c60_10 .ret
def c60_12 : ACode := .cond (.t 27) c60_11 .skip
def c60_13 : ACode := .seq c60_9 c60_12
def c60_14 : ACode := .ops [
    ⟨(some 34), none, .q (.mv (.t 2)), []⟩,
    ⟨(some 35), none, .e (.call 70 [(.t 34)]), []⟩,
    ⟨(some 36), none, .q (.conv .u64 (.t 35)), []⟩,
    ⟨(some 8), none, .q (.mv (.t 36)), []⟩]
def c60_15 : ACode := .ops [
    ⟨(some 37), none, .q (.mv (.t 2)), []⟩,
    ⟨(some 38), none, .q (.mv (.t 8)), []⟩,
    ⟨(some 39), none, .q (.bin .shl (.t 37) (.t 38)), []⟩,
    ⟨(some 2), none, .q (.mv (.t 39)), []⟩]
def c60_16 : ACode := .ops [
    ⟨(some 40), none, .q (.mv (.t 2)), []⟩,
    ⟨(some 41), none, .q (.bin .shr (.t 40) (.v (.int .u64 32))), []⟩,
    ⟨(some 9), none, .q (.mv (.t 41)), []⟩]
def c60_17 : ACode := .ops [
    ⟨(some 42), none, .q (.mv (.t 2)), []⟩,
    ⟨(some 43), none, .q (.bin .and (.t 42) (.v (.int .u64 4294967295))), []⟩,
    ⟨(some 10), none, .q (.mv (.t 43)), []⟩]
def c60_18 : ACode := .ops [
    ⟨(some 44), none, .q (.mv (.t 0)), []⟩,
    ⟨(some 45), none, .q (.mv (.t 8)), []⟩,
    ⟨(some 46), none, .q (.bin .shl (.t 44) (.t 45)), []⟩,
    ⟨(some 47), none, .q (.mv (.t 1)), []⟩,
    ⟨(some 48), none, .q (.mv (.t 8)), []⟩,
    ⟨(some 49), none, .q (.bin .sub (.v (.int .u64 64)) (.t 48)), []⟩,
    ⟨(some 50), none, .q (.bin .shr (.t 47) (.t 49)), []⟩,
    ⟨(some 51), none, .q (.bin .or (.t 46) (.t 50)), []⟩,
    ⟨(some 11), none, .q (.mv (.t 51)), []⟩]
def c60_19 : ACode := .ops [
    ⟨(some 52), none, .q (.mv (.t 1)), []⟩,
    ⟨(some 53), none, .q (.mv (.t 8)), []⟩,
    ⟨(some 54), none, .q (.bin .shl (.t 52) (.t 53)), []⟩,
    ⟨(some 12), none, .q (.mv (.t 54)), []⟩]
def c60_20 : ACode := .ops [
    ⟨(some 55), none, .q (.mv (.t 12)), []⟩,
    ⟨(some 56), none, .q (.bin .shr (.t 55) (.v (.int .u64 32))), []⟩,
    ⟨(some 13), none, .q (.mv (.t 56)), []⟩]
def c60_21 : ACode := .ops [
    ⟨(some 57), none, .q (.mv (.t 12)), []⟩,
    ⟨(some 58), none, .q (.bin .and (.t 57) (.v (.int .u64 4294967295))), []⟩,
    ⟨(some 14), none, .q (.mv (.t 58)), []⟩]
def c60_22 : ACode := .ops [
    ⟨(some 59), none, .q (.mv (.t 11)), []⟩,
    ⟨(some 60), none, .q (.mv (.t 9)), []⟩,
    ⟨(some 61), none, .q (.bin .quo (.t 59) (.t 60)), []⟩,
    ⟨(some 15), none, .q (.mv (.t 61)), []⟩]
def c60_23 : ACode := .ops [
    ⟨(some 62), none, .q (.mv (.t 11)), []⟩,
    ⟨(some 63), none, .q (.mv (.t 15)), []⟩,
    ⟨(some 64), none, .q (.mv (.t 9)), []⟩,
    ⟨(some 65), none, .q (.bin .mul (.t 63) (.t 64)), []⟩,
    ⟨(some 66), none, .q (.bin .sub (.t 62) (.t 65)), []⟩,
    ⟨(some 16), none, .q (.mv (.t 66)), []⟩]
def c60_24 : ACode := .ops [
    ⟨(some 67), none, .q (.mv (.t 15)), []⟩,
    ⟨(some 68), none, .q (.bin .geq (.t 67) (.v (.int .u64 4294967296))), []⟩,
    ⟨(some 69), none, .q (.mv (.t 68)), []⟩,
    ⟨(some 70), (some (69, false)), .q (.mv (.t 15)), []⟩,
    ⟨(some 71), (some (69, false)), .q (.mv (.t 10)), []⟩,
    ⟨(some 72), (some (69, false)), .q (.bin .mul (.t 70) (.t 71)), []⟩,
    ⟨(some 73), (some (69, false)), .q (.mv (.t 16)), []⟩,
    ⟨(some 74), (some (69, false)), .q (.bin .mul (.v (.int .u64 4294967296)) (.t 73)), []⟩,
    ⟨(some 75), (some (69, false)), .q (.mv (.t 13)), []⟩,
    ⟨(some 76), (some (69, false)), .q (.bin .add (.t 74) (.t 75)), []⟩,
    ⟨(some 77), (some (69, false)), .q (.bin .gtr (.t 72) (.t 76)), []⟩,
    ⟨(some 78), none, .q (.pick (.t 69) (.v (.bool true)) (.t 77)), []⟩]
def c60_25 : ACode := .cond (.t 78) .skip (.exit 0)
def c60_26 : ACode := .seq c60_24 c60_25
def c60_27 : ACode := .ops [
    ⟨(some 79), none, .q (.mv (.t 15)), []⟩,
    ⟨(some 80), none, .q (.bin .sub (.t 79) (.v (.int .u64 1))), []⟩,
    ⟨(some 15), none, .q (.mv (.t 80)), []⟩]
def c60_28 : ACode := .ops [
    ⟨(some 81), none, .q (.mv (.t 16)), []⟩,
    ⟨(some 82), none, .q (.mv (.t 9)), []⟩,
    ⟨(some 83), none, .q (.bin .add (.t 81) (.t 82)), []⟩,
    ⟨(some 16), none, .q (.mv (.t 83)), []⟩]
def c60_29 : ACode := .ops [
    ⟨(some 84), none, .q (.mv (.t 16)), []⟩,
    ⟨(some 85), none, .q (.bin .geq (.t 84) (.v (.int .u64 4294967296))), []⟩]
def c60_30 : ACode := .cond (.t 85) (.exit 0) .skip
def c60_31 : ACode := .seq c60_29 c60_30
def c60_32 : ACode := .seq c60_28 c60_31
def c60_33 : ACode := .seq c60_27 c60_32
def c60_34 : ACode := .block 1 c60_33
def c60_35 : ACode := .seq c60_26 c60_34
def c60_36 : ACode := .loop c60_35
def c60_37 : ACode := .block 0 c60_36
def c60_38 : ACode := .ops [
    ⟨(some 86), none, .q (.mv (.t 11)), []⟩,
    ⟨(some 87), none, .q (.bin .mul (.t 86) (.v (.int .u64 4294967296))), []⟩,
    ⟨(some 88), none, .q (.mv (.t 13)), []⟩,
    ⟨(some 89), none, .q (.bin .add (.t 87) (.t 88)), []⟩,
    ⟨(some 90), none, .q (.mv (.t 15)), []⟩,
    ⟨(some 91), none, .q (.mv (.t 2)), []⟩,
    ⟨(some 92), none, .q (.bin .mul (.t 90) (.t 91)), []⟩,
    ⟨(some 93), none, .q (.bin .sub (.t 89) (.t 92)), []⟩,
    ⟨(some 17), none, .q (.mv (.t 93)), []⟩]
def c60_39 : ACode := .ops [
    ⟨(some 94), none, .q (.mv (.t 17)), []⟩,
    ⟨(some 95), none, .q (.mv (.t 9)), []⟩,
    ⟨(some 96), none, .q (.bin .quo (.t 94) (.t 95)), []⟩,
    ⟨(some 18), none, .q (.mv (.t 96)), []⟩]
def c60_40 : ACode := .ops [
    ⟨(some 97), none, .q (.mv (.t 17)), []⟩,
    ⟨(some 98), none, .q (.mv (.t 18)), []⟩,
    ⟨(some 99), none, .q (.mv (.t 9)), []⟩,
    ⟨(some 100), none, .q (.bin .mul (.t 98) (.t 99)), []⟩,
    ⟨(some 101), none, .q (.bin .sub (.t 97) (.t 100)), []⟩,
    ⟨(some 16), none, .q (.mv (.t 101)), []⟩]
def c60_41 : ACode := .ops [
    ⟨(some 102), none, .q (.mv (.t 18)), []⟩,
    ⟨(some 103), none, .q (.bin .geq (.t 102) (.v (.int .u64 4294967296))), []⟩,
    ⟨(some 104), none, .q (.mv (.t 103)), []⟩,
    ⟨(some 105), (some (104, false)), .q (.mv (.t 18)), []⟩,
    ⟨(some 106), (some (104, false)), .q (.mv (.t 10)), []⟩,
    ⟨(some 107), (some (104, false)), .q (.bin .mul (.t 105) (.t 106)), []⟩,
    ⟨(some 108), (some (104, false)), .q (.mv (.t 16)), []⟩,
    ⟨(some 109), (some (104, false)), .q (.bin .mul (.v (.int .u64 4294967296)) (.t 108)), []⟩,
    ⟨(some 110), (some (104, false)), .q (.mv (.t 14)), []⟩,
    ⟨(some 111), (some (104, false)), .q (.bin .add (.t 109) (.t 110)), []⟩,
    ⟨(some 112), (some (104, false)), .q (.bin .gtr (.t 107) (.t 111)), []⟩,
    ⟨(some 113), none, .q (.pick (.t 104) (.v (.bool true)) (.t 112)), []⟩]
def c60_42 : ACode := .cond (.t 113) .skip (.exit 2)
def c60_43 : ACode := .seq c60_41 c60_42
def c60_44 : ACode := .ops [
    ⟨(some 114), none, .q (.mv (.t 18)), []⟩,
    ⟨(some 115), none, .q (.bin .sub (.t 114) (.v (.int .u64 1))), []⟩,
    ⟨(some 18), none, .q (.mv (.t 115)), []⟩]
def c60_45 : ACode := .ops [
    ⟨(some 116), none, .q (.mv (.t 16)), []⟩,
    ⟨(some 117), none, .q (.mv (.t 9)), []⟩,
    ⟨(some 118), none, .q (.bin .add (.t 116) (.t 117)), []⟩,
    ⟨(some 16), none, .q (.mv (.t 118)), []⟩]
def c60_46 : ACode := .ops [
    ⟨(some 119), none, .q (.mv (.t 16)), []⟩,
    ⟨(some 120), none, .q (.bin .geq (.t 119) (.v (.int .u64 4294967296))), []⟩]
def c60_47 : ACode := .cond (.t 120) (.exit 2) .skip
def c60_48 : ACode := .seq c60_46 c60_47
def c60_49 : ACode := .seq c60_45 c60_48
def c60_50 : ACode := .seq c60_44 c60_49
def c60_51 : ACode := .block 3 c60_50
def c60_52 : ACode := .seq c60_43 c60_51
def c60_53 : ACode := .loop c60_52
def c60_54 : ACode := .block 2 c60_53
def c60_55 : ACode := .ops [
    ⟨(some 121), none, .q (.mv (.t 15)), []⟩,
    ⟨(some 122), none, .q (.bin .mul (.t 121) (.v (.int .u64 4294967296))), []⟩,
    ⟨(some 123), none, .q (.mv (.t 18)), []⟩,
    ⟨(some 124), none, .q (.bin .add (.t 122) (.t 123)), []⟩,
    ⟨(some 125), none, .q (.mv (.t 17)), []⟩,
    ⟨(some 126), none, .q (.bin .mul (.t 125) (.v (.int .u64 4294967296))), []⟩,
    ⟨(some 127), none, .q (.mv (.t 14)), []⟩,
    ⟨(some 128), none, .q (.bin .add (.t 126) (.t 127)), []⟩,
    ⟨(some 129), none, .q (.mv (.t 18)), []⟩,
    ⟨(some 130), none, .q (.mv (.t 2)), []⟩,
    ⟨(some 131), none, .q (.bin .mul (.t 129) (.t 130)), []⟩,
    ⟨(some 132), none, .q (.bin .sub (.t 128) (.t 131)), []⟩,
    ⟨(some 133), none, .q (.mv (.t 8)), []⟩,
    ⟨(some 134), none, .q (.bin .shr (.t 132) (.t 133)), []⟩,
    ⟨(some 6), none, .q (.mv (.t 124)), []⟩,
    ⟨(some 7), none, .q (.mv (.t 134)), []⟩]
def c60_56 : ACode := .seq c60_55 .ret
def c60_57 : ACode := .seq c60_54 c60_56
def c60_58 : ACode := .seq c60_40 c60_57
def c60_59 : ACode := .seq c60_39 c60_58
def c60_60 : ACode := .seq c60_38 c60_59
def c60_61 : ACode := .seq c60_37 c60_60
def c60_62 : ACode := .seq c60_23 c60_61
def c60_63 : ACode := .seq c60_22 c60_62
def c60_64 : ACode := .seq c60_21 c60_63
def c60_65 : ACode := .seq c60_20 c60_64
def c60_66 : ACode := .seq c60_19 c60_65
def c60_67 : ACode := .seq c60_18 c60_66
def c60_68 : ACode := .seq c60_17 c60_67
def c60_69 : ACode := .seq c60_16 c60_68
def c60_70 : ACode := .seq c60_15 c60_69
def c60_71 : ACode := .seq c60_14 c60_70
def c60_72 : ACode := .seq c60_13 c60_71
def c60_73 : ACode := .seq c60_8 c60_72
def c60_74 : ACode := .seq c60_4 c60_73
def c60_75 : ACode := .seq c60_0 c60_74
@[go_sem] theorem c60_0_wp (P : Program) (Q : APost) (a : AFr) (σ : ASt) : c60_0.wp P Q a σ = ACode.wp P (.ops [
    ⟨(some 6), none, .q (.mv (.v (.int .u64 0))), []⟩,
    ⟨(some 7), none, .q (.mv (.v (.int .u64 0))), []⟩]) Q a σ := id rfl
@[go_sem] theorem c60_1_wp (P : Program) (Q : APost) (a : AFr) (σ : ASt) : c60_1.wp P Q a σ = ACode.wp P (.ops [
    ⟨(some 19), none, .q (.mv (.t 2)), []⟩,
    ⟨(some 20), none, .q (.bin .eql (.t 19) (.v (.int .u64 0))), []⟩]) Q a σ := id rfl
@[go_sem] theorem c60_2_wp (P : Program) (Q : APost) (a : AFr) (σ : ASt) : c60_2.wp P Q a σ = ACode.wp P (.ops [
    ⟨(some 21), none, .q (.ld none (.v (.ptr 1 0))), []⟩,
    ⟨none, none, .e (.dead), []⟩]) Q a σ := id rfl
@[go_sem] theorem c60_3_wp (P : Program) (Q : APost) (a : AFr) (σ : ASt) : c60_3.wp P Q a σ = ACode.wp P (.cond (.t 20) c60_2 .skip) Q a σ := id rfl
@[go_sem] theorem c60_4_wp (P : Program) (Q : APost) (a : AFr) (σ : ASt) : c60_4.wp P Q a σ = ACode.wp P (.seq c60_1 c60_3) Q a σ := id rfl
@[go_sem] theorem c60_5_wp (P : Program) (Q : APost) (a : AFr) (σ : ASt) : c60_5.wp P Q a σ = ACode.wp P (.ops [
    ⟨(some 22), none, .q (.mv (.t 2)), []⟩,
    ⟨(some 23), none, .q (.mv (.t 0)), []⟩,
    ⟨(some 24), none, .q (.bin .leq (.t 22) (.t 23)), []⟩]) Q a σ := id rfl
@[go_sem] theorem c60_6_wp (P : Program) (Q : APost) (a : AFr) (σ : ASt) : c60_6.wp P Q a σ = ACode.wp P (.ops [
    ⟨(some 25), none, .q (.ld none (.v (.ptr 2 0))), []⟩,
    ⟨none, none, .e (.dead), []⟩]) Q a σ := id rfl
@[go_sem] theorem c60_7_wp (P : Program) (Q : APost) (a : AFr) (σ : ASt) : c60_7.wp P Q a σ = ACode.wp P (.cond (.t 24) c60_6 .skip) Q a σ := id rfl
@[go_sem] theorem c60_8_wp (P : Program) (Q : APost) (a : AFr) (σ : ASt) : c60_8.wp P Q a σ = ACode.wp P (.seq c60_5 c60_7) Q a σ := id rfl
@[go_sem] theorem c60_9_wp (P : Program) (Q : APost) (a : AFr) (σ : ASt) : c60_9.wp P Q a σ = ACode.wp P (.ops [
    ⟨(some 26), none, .q (.mv (.t 0)), []⟩,
    ⟨(some 27), none, .q (.bin .eql (.t 26) (.v (.int .u64 0))), []⟩]) Q a σ := id rfl
@[go_sem] theorem c60_10_wp (P : Program) (Q : APost) (a : AFr) (σ : ASt) : c60_10.wp P Q a σ = ACode.wp P (.ops [
    ⟨(some 28), none, .q (.mv (.t 1)), []⟩,
    ⟨(some 29), none, .q (.mv (.t 2)), []⟩,
    ⟨(some 30), none, .q (.bin .quo (.t 28) (.t 29)), []⟩,
    ⟨(some 31), none, .q (.mv (.t 1)), []⟩,
    ⟨(some 32), none, .q (.mv (.t 2)), []⟩,
    ⟨(some 33), none, .q (.bin .rem (.t 31) (.t 32)), []⟩,
    ⟨(some 6), none, .q (.mv (.t 30)), []⟩,
    ⟨(some 7), none, .q (.mv (.t 33)), []⟩]) Q a σ := id rfl
@[go_sem] theorem c60_11_wp (P : Program) (Q : APost) (a : AFr) (σ : ASt) : c60_11.wp P Q a σ = ACode.wp P (.seq c60_10 .ret) Q a σ := id rfl
@[go_sem] theorem c60_12_wp (P : Program) (Q : APost) (a : AFr) (σ : ASt) : c60_12.wp P Q a σ = ACode.wp P (.cond (.t 27) c60_11 .skip) Q a σ := id rfl
@[go_sem] theorem c60_13_wp (P : Program) (Q : APost) (a : AFr) (σ : ASt) : c60_13.wp P Q a σ = ACode.wp P (.seq c60_9 c60_12) Q a σ := id rfl
@[go_sem] theorem c60_14_wp (P : Program) (Q : APost) (a : AFr) (σ : ASt) : c60_14.wp P Q a σ = ACode.wp P (.ops [
    ⟨(some 34), none, .q (.mv (.t 2)), []⟩,
    ⟨(some 35), none, .e (.call 70 [(.t 34)]), []⟩,
    ⟨(some 36), none, .q (.conv .u64 (.t 35)), []⟩,
    ⟨(some 8), none, .q (.mv (.t 36)), []⟩]) Q a σ := id rfl
@[go_sem] theorem c60_15_wp (P : Program) (Q : APost) (a : AFr) (σ : ASt) : c60_15.wp P Q a σ = ACode.wp P (.ops [
    ⟨(some 37), none, .q (.mv (.t 2)), []⟩,
    ⟨(some 38), none, .q (.mv (.t 8)), []⟩,
    ⟨(some 39), none, .q (.bin .shl (.t 37) (.t 38)), []⟩,
    ⟨(some 2), none, .q (.mv (.t 39)), []⟩]) Q a σ := id rfl
@[go_sem] theorem c60_16_wp (P : Program) (Q : APost) (a : AFr) (σ : ASt) : c60_16.wp P Q a σ = ACode.wp P (.ops [
    ⟨(some 40), none, .q (.mv (.t 2)), []⟩,
    ⟨(some 41), none, .q (.bin .shr (.t 40) (.v (.int .u64 32))), []⟩,
    ⟨(some 9), none, .q (.mv (.t 41)), []⟩]) Q a σ := id rfl
@[go_sem] theorem c60_17_wp (P : Program) (Q : APost) (a : AFr) (σ : ASt) : c60_17.wp P Q a σ = ACode.wp P (.ops [
    ⟨(some 42), none, .q (.mv (.t 2)), []⟩,
    ⟨(some 43), none, .q (.bin .and (.t 42) (.v (.int .u64 4294967295))), []⟩,
    ⟨(some 10), none, .q (.mv (.t 43)), []⟩]) Q a σ := id rfl
@[go_sem] theorem c60_18_wp (P : Program) (Q : APost) (a : AFr) (σ : ASt) : c60_18.wp P Q a σ = ACode.wp P (.ops [
    ⟨(some 44), none, .q (.mv (.t 0)), []⟩,
    ⟨(some 45), none, .q (.mv (.t 8)), []⟩,
    ⟨(some 46), none, .q (.bin .shl (.t 44) (.t 45)), []⟩,
    ⟨(some 47), none, .q (.mv (.t 1)), []⟩,
    ⟨(some 48), none, .q (.mv (.t 8)), []⟩,
    ⟨(some 49), none, .q (.bin .sub (.v (.int .u64 64)) (.t 48)), []⟩,
    ⟨(some 50), none, .q (.bin .shr (.t 47) (.t 49)), []⟩,
    ⟨(some 51), none, .q (.bin .or (.t 46) (.t 50)), []⟩,
    ⟨(some 11), none, .q (.mv (.t 51)), []⟩]) Q a σ := id rfl
@[go_sem] theorem c60_19_wp (P : Program) (Q : APost) (a : AFr) (σ : ASt) : c60_19.wp P Q a σ = ACode.wp P (.ops [
    ⟨(some 52), none, .q (.mv (.t 1)), []⟩,
    ⟨(some 53), none, .q (.mv (.t 8)), []⟩,
    ⟨(some 54), none, .q (.bin .shl (.t 52) (.t 53)), []⟩,
    ⟨(some 12), none, .q (.mv (.t 54)), []⟩]) Q a σ := id rfl
@[go_sem] theorem c60_20_wp (P : Program) (Q : APost) (a : AFr) (σ : ASt) : c60_20.wp P Q a σ = ACode.wp P (.ops [
    ⟨(some 55), none, .q (.mv (.t 12)), []⟩,
    ⟨(some 56), none, .q (.bin .shr (.t 55) (.v (.int .u64 32))), []⟩,
    ⟨(some 13), none, .q (.mv (.t 56)), []⟩]) Q a σ := id rfl
@[go_sem] theorem c60_21_wp (P : Program) (Q : APost) (a : AFr) (σ : ASt) : c60_21.wp P Q a σ = ACode.wp P (.ops [
    ⟨(some 57), none, .q (.mv (.t 12)), []⟩,
    ⟨(some 58), none, .q (.bin .and (.t 57) (.v (.int .u64 4294967295))), []⟩,
    ⟨(some 14), none, .q (.mv (.t 58)), []⟩]) Q a σ := id rfl
@[go_sem] theorem c60_22_wp (P : Program) (Q : APost) (a : AFr) (σ : ASt) : c60_22.wp P Q a σ = ACode.wp P (.ops [
    ⟨(some 59), none, .q (.mv (.t 11)), []⟩,
    ⟨(some 60), none, .q (.mv (.t 9)), []⟩,
    ⟨(some 61), none, .q (.bin .quo (.t 59) (.t 60)), []⟩,
    ⟨(some 15), none, .q (.mv (.t 61)), []⟩]) Q a σ := id rfl
@[go_sem] theorem c60_23_wp (P : Program) (Q : APost) (a : AFr) (σ : ASt) : c60_23.wp P Q a σ = ACode.wp P (.ops [
    ⟨(some 62), none, .q (.mv (.t 11)), []⟩,
    ⟨(some 63), none, .q (.mv (.t 15)), []⟩,
    ⟨(some 64), none, .q (.mv (.t 9)), []⟩,
    ⟨(some 65), none, .q (.bin .mul (.t 63) (.t 64)), []⟩,
    ⟨(some 66), none, .q (.bin .sub (.t 62) (.t 65)), []⟩,
    ⟨(some 16), none, .q (.mv (.t 66)), []⟩]) Q a σ := id rfl
@[go_sem] theorem c60_24_wp (P : Program) (Q : APost) (a : AFr) (σ : ASt) : c60_24.wp P Q a σ = ACode.wp P (.ops [
    ⟨(some 67), none, .q (.mv (.t 15)), []⟩,
    ⟨(some 68), none, .q (.bin .geq (.t 67) (.v (.int .u64 4294967296))), []⟩,
    ⟨(some 69), none, .q (.mv (.t 68)), []⟩,
    ⟨(some 70), (some (69, false)), .q (.mv (.t 15)), []⟩,
    ⟨(some 71), (some (69, false)), .q (.mv (.t 10)), []⟩,
    ⟨(some 72), (some (69, false)), .q (.bin .mul (.t 70) (.t 71)), []⟩,
    ⟨(some 73), (some (69, false)), .q (.mv (.t 16)), []⟩,
    ⟨(some 74), (some (69, false)), .q (.bin .mul (.v (.int .u64 4294967296)) (.t 73)), []⟩,
    ⟨(some 75), (some (69, false)), .q (.mv (.t 13)), []⟩,
    ⟨(some 76), (some (69, false)), .q (.bin .add (.t 74) (.t 75)), []⟩,
    ⟨(some 77), (some (69, false)), .q (.bin .gtr (.t 72) (.t 76)), []⟩,
    ⟨(some 78), none, .q (.pick (.t 69) (.v (.bool true)) (.t 77)), []⟩]) Q a σ := id rfl
@[go_sem] theorem c60_25_wp (P : Program) (Q : APost) (a : AFr) (σ : ASt) : c60_25.wp P Q a σ = ACode.wp P (.cond (.t 78) .skip (.exit 0)) Q a σ := id rfl
@[go_sem] theorem c60_26_wp (P : Program) (Q : APost) (a : AFr) (σ : ASt) : c60_26.wp P Q a σ = ACode.wp P (.seq c60_24 c60_25) Q a σ := id rfl
@[go_sem] theorem c60_27_wp (P : Program) (Q : APost) (a : AFr) (σ : ASt) : c60_27.wp P Q a σ = ACode.wp P (.ops [
    ⟨(some 79), none, .q (.mv (.t 15)), []⟩,
    ⟨(some 80), none, .q (.bin .sub (.t 79) (.v (.int .u64 1))), []⟩,
    ⟨(some 15), none, .q (.mv (.t 80)), []⟩]) Q a σ := id rfl
@[go_sem] theorem c60_28_wp (P : Program) (Q : APost) (a : AFr) (σ : ASt) : c60_28.wp P Q a σ = ACode.wp P (.ops [
    ⟨(some 81), none, .q (.mv (.t 16)), []⟩,
    ⟨(some 82), none, .q (.mv (.t 9)), []⟩,
    ⟨(some 83), none, .q (.bin .add (.t 81) (.t 82)), []⟩,
    ⟨(some 16), none, .q (.mv (.t 83)), []⟩]) Q a σ := id rfl
@[go_sem] theorem c60_29_wp (P : Program) (Q : APost) (a : AFr) (σ : ASt) : c60_29.wp P Q a σ = ACode.wp P (.ops [
    ⟨(some 84), none, .q (.mv (.t 16)), []⟩,
    ⟨(some 85), none, .q (.bin .geq (.t 84) (.v (.int .u64 4294967296))), []⟩]) Q a σ := id rfl
@[go_sem] theorem c60_30_wp (P : Program) (Q : APost) (a : AFr) (σ : ASt) : c60_30.wp P Q a σ = ACode.wp P (.cond (.t 85) (.exit 0) .skip) Q a σ := id rfl
@[go_sem] theorem c60_31_wp (P : Program) (Q : APost) (a : AFr) (σ : ASt) : c60_31.wp P Q a σ = ACode.wp P (.seq c60_29 c60_30) Q a σ := id rfl
@[go_sem] theorem c60_32_wp (P : Program) (Q : APost) (a : AFr) (σ : ASt) : c60_32.wp P Q a σ = ACode.wp P (.seq c60_28 c60_31) Q a σ := id rfl
@[go_sem] theorem c60_33_wp (P : Program) (Q : APost) (a : AFr) (σ : ASt) : c60_33.wp P Q a σ = ACode.wp P (.seq c60_27 c60_32) Q a σ := id rfl
@[go_sem] theorem c60_34_wp (P : Program) (Q : APost) (a : AFr) (σ : ASt) : c60_34.wp P Q a σ = ACode.wp P (.block 1 c60_33) Q a σ := id rfl
@[go_sem] theorem c60_35_wp (P : Program) (Q : APost) (a : AFr) (σ : ASt) : c60_35.wp P Q a σ = ACode.wp P (.seq c60_26 c60_34) Q a σ := id rfl
@[go_sem] theorem c60_36_wp (P : Program) (Q : APost) (a : AFr) (σ : ASt) : c60_36.wp P Q a σ = ACode.wp P (.loop c60_35) Q a σ := id rfl
@[go_sem] theorem c60_37_wp (P : Program) (Q : APost) (a : AFr) (σ : ASt) : c60_37.wp P Q a σ = ACode.wp P (.block 0 c60_36) Q a σ := id rfl
@[go_sem] theorem c60_38_wp (P : Program) (Q : APost) (a : AFr) (σ : ASt) : c60_38.wp P Q a σ = ACode.wp P (.ops [
    ⟨(some 86), none, .q (.mv (.t 11)), []⟩,
    ⟨(some 87), none, .q (.bin .mul (.t 86) (.v (.int .u64 4294967296))), []⟩,
    ⟨(some 88), none, .q (.mv (.t 13)), []⟩,
    ⟨(some 89), none, .q (.bin .add (.t 87) (.t 88)), []⟩,
    ⟨(some 90), none, .q (.mv (.t 15)), []⟩,
    ⟨(some 91), none, .q (.mv (.t 2)), []⟩,
    ⟨(some 92), none, .q (.bin .mul (.t 90) (.t 91)), []⟩,
    ⟨(some 93), none, .q (.bin .sub (.t 89) (.t 92)), []⟩,
    ⟨(some 17), none, .q (.mv (.t 93)), []⟩]) Q a σ := id rfl
@[go_sem] theorem c60_39_wp (P : Program) (Q : APost) (a : AFr) (σ : ASt) : c60_39.wp P Q a σ = ACode.wp P (.ops [
    ⟨(some 94), none, .q (.mv (.t 17)), []⟩,
    ⟨(some 95), none, .q (.mv (.t 9)), []⟩,
    ⟨(some 96), none, .q (.bin .quo (.t 94) (.t 95)), []⟩,
    ⟨(some 18), none, .q (.mv (.t 96)), []⟩]) Q a σ := id rfl
@[go_sem] theorem c60_40_wp (P : Program) (Q : APost) (a : AFr) (σ : ASt) : c60_40.wp P Q a σ = ACode.wp P (.ops [
    ⟨(some 97), none, .q (.mv (.t 17)), []⟩,
    ⟨(some 98), none, .q (.mv (.t 18)), []⟩,
    ⟨(some 99), none, .q (.mv (.t 9)), []⟩,
    ⟨(some 100), none, .q (.bin .mul (.t 98) (.t 99)), []⟩,
    ⟨(some 101), none, .q (.bin .sub (.t 97) (.t 100)), []⟩,
    ⟨(some 16), none, .q (.mv (.t 101)), []⟩]) Q a σ := id rfl
@[go_sem] theorem c60_41_wp (P : Program) (Q : APost) (a : AFr) (σ : ASt) : c60_41.wp P Q a σ = ACode.wp P (.ops [
    ⟨(some 102), none, .q (.mv (.t 18)), []⟩,
    ⟨(some 103), none, .q (.bin .geq (.t 102) (.v (.int .u64 4294967296))), []⟩,
    ⟨(some 104), none, .q (.mv (.t 103)), []⟩,
    ⟨(some 105), (some (104, false)), .q (.mv (.t 18)), []⟩,
    ⟨(some 106), (some (104, false)), .q (.mv (.t 10)), []⟩,
    ⟨(some 107), (some (104, false)), .q (.bin .mul (.t 105) (.t 106)), []⟩,
    ⟨(some 108), (some (104, false)), .q (.mv (.t 16)), []⟩,
    ⟨(some 109), (some (104, false)), .q (.bin .mul (.v (.int .u64 4294967296)) (.t 108)), []⟩,
    ⟨(some 110), (some (104, false)), .q (.mv (.t 14)), []⟩,
    ⟨(some 111), (some (104, false)), .q (.bin .add (.t 109) (.t 110)), []⟩,
    ⟨(some 112), (some (104, false)), .q (.bin .gtr (.t 107) (.t 111)), []⟩,
    ⟨(some 113), none, .q (.pick (.t 104) (.v (.bool true)) (.t 112)), []⟩]) Q a σ := id rfl
@[go_sem] theorem c60_42_wp (P : Program) (Q : APost) (a : AFr) (σ : ASt) : c60_42.wp P Q a σ = ACode.wp P (.cond (.t 113) .skip (.exit 2)) Q a σ := id rfl
@[go_sem] theorem c60_43_wp (P : Program) (Q : APost) (a : AFr) (σ : ASt) : c60_43.wp P Q a σ = ACode.wp P (.seq c60_41 c60_42) Q a σ := id rfl
@[go_sem] theorem c60_44_wp (P : Program) (Q : APost) (a : AFr) (σ : ASt) : c60_44.wp P Q a σ = ACode.wp P (.ops [
    ⟨(some 114), none, .q (.mv (.t 18)), []⟩,
    ⟨(some 115), none, .q (.bin .sub (.t 114) (.v (.int .u64 1))), []⟩,
    ⟨(some 18), none, .q (.mv (.t 115)), []⟩]) Q a σ := id rfl
@[go_sem] theorem c60_45_wp (P : Program) (Q : APost) (a : AFr) (σ : ASt) : c60_45.wp P Q a σ = ACode.wp P (.ops [
    ⟨(some 116), none, .q (.mv (.t 16)), []⟩,
    ⟨(some 117), none, .q (.mv (.t 9)), []⟩,
    ⟨(some 118), none, .q (.bin .add (.t 116) (.t 117)), []⟩,
    ⟨(some 16), none, .q (.mv (.t 118)), []⟩]) Q a σ := id rfl
@[go_sem] theorem c60_46_wp (P : Program) (Q : APost) (a : AFr) (σ : ASt) : c60_46.wp P Q a σ = ACode.wp P (.ops [
    ⟨(some 119), none, .q (.mv (.t 16)), []⟩,
    ⟨(some 120), none, .q (.bin .geq (.t 119) (.v (.int .u64 4294967296))), []⟩]) Q a σ := id rfl
@[go_sem] theorem c60_47_wp (P : Program) (Q : APost) (a : AFr) (σ : ASt) : c60_47.wp P Q a σ = ACode.wp P (.cond (.t 120) (.exit 2) .skip) Q a σ := id rfl
@[go_sem] theorem c60_48_wp (P : Program) (Q : APost) (a : AFr) (σ : ASt) : c60_48.wp P Q a σ = ACode.wp P (.seq c60_46 c60_47) Q a σ := id rfl
@[go_sem] theorem c60_49_wp (P : Program) (Q : APost) (a : AFr) (σ : ASt) : c60_49.wp P Q a σ = ACode.wp P (.seq c60_45 c60_48) Q a σ := id rfl
@[go_sem] theorem c60_50_wp (P : Program) (Q : APost) (a : AFr) (σ : ASt) : c60_50.wp P Q a σ = ACode.wp P (.seq c60_44 c60_49) Q a σ := id rfl
@[go_sem] theorem c60_51_wp (P : Program) (Q : APost) (a : AFr) (σ : ASt) : c60_51.wp P Q a σ = ACode.wp P (.block 3 c60_50) Q a σ := id rfl
@[go_sem] theorem c60_52_wp (P : Program) (Q : APost) (a : AFr) (σ : ASt) : c60_52.wp P Q a σ = ACode.wp P (.seq c60_43 c60_51) Q a σ := id rfl
@[go_sem] theorem c60_53_wp (P : Program) (Q : APost) (a : AFr) (σ : ASt) : c60_53.wp P Q a σ = ACode.wp P (.loop c60_52) Q a σ := id rfl
@[go_sem] theorem c60_54_wp (P : Program) (Q : APost) (a : AFr) (σ : ASt) : c60_54.wp P Q a σ = ACode.wp P (.block 2 c60_53) Q a σ := id rfl
@[go_sem] theorem c60_55_wp (P : Program) (Q : APost) (a : AFr) (σ : ASt) : c60_55.wp P Q a σ = ACode.wp P (.ops [
    ⟨(some 121), none, .q (.mv (.t 15)), []⟩,
    ⟨(some 122), none, .q (.bin .mul (.t 121) (.v (.int .u64 4294967296))), []⟩,
    ⟨(some 123), none, .q (.mv (.t 18)), []⟩,
    ⟨(some 124), none, .q (.bin .add (.t 122) (.t 123)), []⟩,
    ⟨(some 125), none, .q (.mv (.t 17)), []⟩,
    ⟨(some 126), none, .q (.bin .mul (.t 125) (.v (.int .u64 4294967296))), []⟩,
    ⟨(some 127), none, .q (.mv (.t 14)), []⟩,
    ⟨(some 128), none, .q (.bin .add (.t 126) (.t 127)), []⟩,
    ⟨(some 129), none, .q (.mv (.t 18)), []⟩,
    ⟨(some 130), none, .q (.mv (.t 2)), []⟩,
    ⟨(some 131), none, .q (.bin .mul (.t 129) (.t 130)), []⟩,
    ⟨(some 132), none, .q (.bin .sub (.t 128) (.t 131)), []⟩,
    ⟨(some 133), none, .q (.mv (.t 8)), []⟩,
    ⟨(some 134), none, .q (.bin .shr (.t 132) (.t 133)), []⟩,
    ⟨(some 6), none, .q (.mv (.t 124)), []⟩,
    ⟨(some 7), none, .q (.mv (.t 134)), []⟩]) Q a σ := id rfl
@[go_sem] theorem c60_56_wp (P : Program) (Q : APost) (a : AFr) (σ : ASt) : c60_56.wp P Q a σ = ACode.wp P (.seq c60_55 .ret) Q a σ := id rfl
@[go_sem] theorem c60_57_wp (P : Program) (Q : APost) (a : AFr) (σ : ASt) : c60_57.wp P Q a σ = ACode.wp P (.seq c60_54 c60_56) Q a σ := id rfl
@[go_sem] theorem c60_58_wp (P : Program) (Q : APost) (a : AFr) (σ : ASt) : c60_58.wp P Q a σ = ACode.wp P (.seq c60_40 c60_57) Q a σ := id rfl
@[go_sem] theorem c60_59_wp (P : Program) (Q : APost) (a : AFr) (σ : ASt) : c60_59.wp P Q a σ = ACode.wp P (.seq c60_39 c60_58) Q a σ := id rfl
@[go_sem] theorem c60_60_wp (P : Program) (Q : APost) (a : AFr) (σ : ASt) : c60_60.wp P Q a σ = ACode.wp P (.seq c60_38 c60_59) Q a σ := id rfl
@[go_sem] theorem c60_61_wp (P : Program) (Q : APost) (a : AFr) (σ : ASt) : c60_61.wp P Q a σ = ACode.wp P (.seq c60_37 c60_60) Q a σ := id rfl
@[go_sem] theorem c60_62_wp (P : Program) (Q : APost) (a : AFr) (σ : ASt) : c60_62.wp P Q a σ = ACode.wp P (.seq c60_23 c60_61) Q a σ := id rfl
@[go_sem] theorem c60_63_wp (P : Program) (Q : APost) (a : AFr) (σ : ASt) : c60_63.wp P Q a σ = ACode.wp P (.seq c60_22 c60_62) Q a σ := id rfl
@[go_sem] theorem c60_64_wp (P : Program) (Q : APost) (a : AFr) (σ : ASt) : c60_64.wp P Q a σ = ACode.wp P (.seq c60_21 c60_63) Q a σ := id rfl
@[go_sem] theorem c60_65_wp (P : Program) (Q : APost) (a : AFr) (σ : ASt) : c60_65.wp P Q a σ = ACode.wp P (.seq c60_20 c60_64) Q a σ := id rfl
@[go_sem] theorem c60_66_wp (P : Program) (Q : APost) (a : AFr) (σ : ASt) : c60_66.wp P Q a σ = ACode.wp P (.seq c60_19 c60_65) Q a σ := id rfl
@[go_sem] theorem c60_67_wp (P : Program) (Q : APost) (a : AFr) (σ : ASt) : c60_67.wp P Q a σ = ACode.wp P (.seq c60_18 c60_66) Q a σ := id rfl
@[go_sem] theorem c60_68_wp (P : Program) (Q : APost) (a : AFr) (σ : ASt) : c60_68.wp P Q a σ = ACode.wp P (.seq c60_17 c60_67) Q a σ := id rfl
@[go_sem] theorem c60_69_wp (P : Program) (Q : APost) (a : AFr) (σ : ASt) : c60_69.wp P Q a σ = ACode.wp P (.seq c60_16 c60_68) Q a σ := id rfl
@[go_sem] theorem c60_70_wp (P : Program) (Q : APost) (a : AFr) (σ : ASt) : c60_70.wp P Q a σ = ACode.wp P (.seq c60_15 c60_69) Q a σ := id rfl
@[go_sem] theorem c60_71_wp (P : Program) (Q : APost) (a : AFr) (σ : ASt) : c60_71.wp P Q a σ = ACode.wp P (.seq c60_14 c60_70) Q a σ := id rfl
@[go_sem] theorem c60_72_wp (P : Program) (Q : APost) (a : AFr) (σ : ASt) : c60_72.wp P Q a σ = ACode.wp P (.seq c60_13 c60_71) Q a σ := id rfl
@[go_sem] theorem c60_73_wp (P : Program) (Q : APost) (a : AFr) (σ : ASt) : c60_73.wp P Q a σ = ACode.wp P (.seq c60_8 c60_72) Q a σ := id rfl
@[go_sem] theorem c60_74_wp (P : Program) (Q : APost) (a : AFr) (σ : ASt) : c60_74.wp P Q a σ = ACode.wp P (.seq c60_4 c60_73) Q a σ := id rfl
@[go_sem] theorem c60_75_wp (P : Program) (Q : APost) (a : AFr) (σ : ASt) : c60_75.wp P Q a σ = ACode.wp P (.seq c60_0 c60_74) Q a σ := id rfl
def c60 : AFn := ⟨135, [.t 6, .t 7], c60_75⟩
set_option maxRecDepth 100000 in
theorem c60_ok : compF Tryd.prog Tryd.f60 = some c60 := by kernel_rfl
theorem a60 {args : List AV} {σ : ASt} {R : AV → ASt → Prop} (hl : args.length ≤ 135) (h : c60_75.wp Tryd.prog (RetQ [.t 6, .t 7] R) (init args) σ) : ACalls Tryd.prog 60 args σ R := acalls_of Tryd.func60 c60_ok hl h

end Go.A
