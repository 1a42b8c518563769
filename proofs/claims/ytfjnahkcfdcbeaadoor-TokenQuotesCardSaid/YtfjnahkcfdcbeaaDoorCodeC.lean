/- The functions, compiled: by program (wip/gencode.py). -/
import Derived.Test.YtfjnahkcfdcbeaaDoorBk
import Derived.Test.YtfjnahkcfdcbeaaDoorProg
import Derived.KernelRfl
namespace Go.A
open Go.Proofs

/-! 23: tabular/tabularlaw11.awake -/
def c23_0 : ACode := .ops [
    ⟨(some 0), none, .q (.mv (.v (.bool false))), []⟩]
def c23_1 : ACode := .ops [
    ⟨(some 8), none, .e (.call 24 [(.v (.str [115, 117, 109, 40, 97, 49, 58, 66, 36, 50, 41, 226, 137, 164, 49, 46, 53]))]), []⟩,
    ⟨(some 7), none, .q (.mv (.t 8)), []⟩,
    ⟨(some 9), none, .q (.ext 0 (.t 7)), []⟩,
    ⟨(some 10), none, .q (.ext 1 (.t 7)), []⟩,
    ⟨(some 11), none, .q (.ext 2 (.t 7)), []⟩,
    ⟨(some 1), none, .q (.mv (.t 9)), []⟩,
    ⟨(some 2), none, .q (.mv (.t 10)), []⟩,
    ⟨(some 3), none, .q (.mv (.t 11)), []⟩]
def c23_2 : ACode := .ops [
    ⟨(some 13), none, .e (.call 24 [(.v (.str [32, 34, 195, 169]))]), []⟩,
    ⟨(some 12), none, .q (.mv (.t 13)), []⟩,
    ⟨(some 14), none, .q (.ext 0 (.t 12)), []⟩,
    ⟨(some 15), none, .q (.ext 1 (.t 12)), []⟩,
    ⟨(some 16), none, .q (.ext 2 (.t 12)), []⟩,
    ⟨(some 4), none, .q (.mv (.t 14)), []⟩,
    ⟨(some 5), none, .q (.mv (.t 15)), []⟩,
    ⟨(some 6), none, .q (.mv (.t 16)), []⟩]
def c23_3 : ACode := .ops [
    ⟨(some 17), none, .q (.mv (.t 3)), []⟩,
    ⟨(some 18), none, .q (.bin .eql (.t 17) (.v (.int .i64 0))), []⟩,
    ⟨(some 19), none, .q (.mv (.t 18)), []⟩,
    ⟨(some 20), (some (19, true)), .q (.mv (.t 1)), []⟩,
    ⟨(some 21), (some (19, true)), .q (.len (.t 20)), []⟩,
    ⟨(some 22), (some (19, true)), .q (.bin .eql (.t 21) (.v (.int .i64 9))), []⟩,
    ⟨(some 23), none, .q (.pick (.t 19) (.t 22) (.v (.bool false))), []⟩,
    ⟨(some 24), none, .q (.mv (.t 23)), []⟩,
    ⟨(some 25), (some (24, true)), .q (.mv (.t 1)), []⟩,
    ⟨(some 26), (some (24, true)), .q (.ia 4 (.t 25) (.v (.int .i64 0))), []⟩,
    ⟨(some 27), (some (24, true)), .q (.ld (some 4) (.t 26)), []⟩,
    ⟨(some 28), (some (24, true)), .q (.build [(.int .i64 0), (.str []), (.int .i64 0), (.int .i64 0)] [(0, 1, (.v (.int .i64 3))), (1, 1, (.v (.str [83, 85, 77])))]), []⟩,
    ⟨(some 29), (some (24, true)), .q (.eqs false [(0, 0), (1, 2), (2, 0), (3, 0)] (.t 27) (.t 28)), []⟩,
    ⟨(some 30), none, .q (.pick (.t 24) (.t 29) (.v (.bool false))), []⟩,
    ⟨(some 31), none, .q (.mv (.t 30)), []⟩,
    ⟨(some 32), (some (31, true)), .q (.mv (.t 1)), []⟩,
    ⟨(some 33), (some (31, true)), .q (.ia 4 (.t 32) (.v (.int .i64 6))), []⟩,
    ⟨(some 34), (some (31, true)), .q (.fa 1 (.t 33)), []⟩,
    ⟨(some 35), (some (31, true)), .q (.ld none (.t 34)), []⟩,
    ⟨(some 36), (some (31, true)), .q (.bin .eql (.t 35) (.v (.str [60, 61]))), []⟩,
    ⟨(some 37), none, .q (.pick (.t 31) (.t 36) (.v (.bool false))), []⟩,
    ⟨(some 38), none, .q (.mv (.t 37)), []⟩,
    ⟨(some 39), (some (38, true)), .q (.mv (.t 1)), []⟩,
    ⟨(some 40), (some (38, true)), .q (.ia 4 (.t 39) (.v (.int .i64 7))), []⟩,
    ⟨(some 41), (some (38, true)), .q (.fa 2 (.t 40)), []⟩,
    ⟨(some 42), (some (38, true)), .q (.ld none (.t 41)), []⟩,
    ⟨(some 43), (some (38, true)), .q (.bin .eql (.t 42) (.v (.int .i64 14))), []⟩,
    ⟨(some 44), none, .q (.pick (.t 38) (.t 43) (.v (.bool false))), []⟩,
    ⟨(some 45), none, .q (.mv (.t 44)), []⟩,
    ⟨(some 46), (some (45, true)), .q (.mv (.t 1)), []⟩,
    ⟨(some 47), (some (45, true)), .q (.ia 4 (.t 46) (.v (.int .i64 7))), []⟩,
    ⟨(some 48), (some (45, true)), .q (.fa 3 (.t 47)), []⟩,
    ⟨(some 49), (some (45, true)), .q (.ld none (.t 48)), []⟩,
    ⟨(some 50), (some (45, true)), .q (.bin .eql (.t 49) (.v (.int .i64 12))), []⟩,
    ⟨(some 51), none, .q (.pick (.t 45) (.t 50) (.v (.bool false))), []⟩,
    ⟨(some 52), none, .q (.mv (.t 51)), []⟩,
    ⟨(some 53), (some (52, true)), .q (.mv (.t 6)), []⟩,
    ⟨(some 54), (some (52, true)), .q (.bin .eql (.t 53) (.v (.int .i64 10))), []⟩,
    ⟨(some 55), none, .q (.pick (.t 52) (.t 54) (.v (.bool false))), []⟩,
    ⟨(some 56), none, .q (.mv (.t 55)), []⟩,
    ⟨(some 57), (some (56, true)), .q (.mv (.t 5)), []⟩,
    ⟨(some 58), (some (56, true)), .q (.bin .eql (.t 57) (.v (.int .i64 1))), []⟩,
    ⟨(some 59), none, .q (.pick (.t 56) (.t 58) (.v (.bool false))), []⟩,
    ⟨(some 0), none, .q (.mv (.t 59)), []⟩]
def c23_4 : ACode := .seq c23_3 .ret
def c23_5 : ACode := .seq c23_2 c23_4
def c23_6 : ACode := .seq c23_1 c23_5
def c23_7 : ACode := .seq c23_0 c23_6
@[go_sem] theorem c23_0_wp (P : Program) (Q : APost) (a : AFr) (σ : ASt) : c23_0.wp P Q a σ = ACode.wp P (.ops [
    ⟨(some 0), none, .q (.mv (.v (.bool false))), []⟩]) Q a σ := id rfl
@[go_sem] theorem c23_1_wp (P : Program) (Q : APost) (a : AFr) (σ : ASt) : c23_1.wp P Q a σ = ACode.wp P (.ops [
    ⟨(some 8), none, .e (.call 24 [(.v (.str [115, 117, 109, 40, 97, 49, 58, 66, 36, 50, 41, 226, 137, 164, 49, 46, 53]))]), []⟩,
    ⟨(some 7), none, .q (.mv (.t 8)), []⟩,
    ⟨(some 9), none, .q (.ext 0 (.t 7)), []⟩,
    ⟨(some 10), none, .q (.ext 1 (.t 7)), []⟩,
    ⟨(some 11), none, .q (.ext 2 (.t 7)), []⟩,
    ⟨(some 1), none, .q (.mv (.t 9)), []⟩,
    ⟨(some 2), none, .q (.mv (.t 10)), []⟩,
    ⟨(some 3), none, .q (.mv (.t 11)), []⟩]) Q a σ := id rfl
@[go_sem] theorem c23_2_wp (P : Program) (Q : APost) (a : AFr) (σ : ASt) : c23_2.wp P Q a σ = ACode.wp P (.ops [
    ⟨(some 13), none, .e (.call 24 [(.v (.str [32, 34, 195, 169]))]), []⟩,
    ⟨(some 12), none, .q (.mv (.t 13)), []⟩,
    ⟨(some 14), none, .q (.ext 0 (.t 12)), []⟩,
    ⟨(some 15), none, .q (.ext 1 (.t 12)), []⟩,
    ⟨(some 16), none, .q (.ext 2 (.t 12)), []⟩,
    ⟨(some 4), none, .q (.mv (.t 14)), []⟩,
    ⟨(some 5), none, .q (.mv (.t 15)), []⟩,
    ⟨(some 6), none, .q (.mv (.t 16)), []⟩]) Q a σ := id rfl
@[go_sem] theorem c23_3_wp (P : Program) (Q : APost) (a : AFr) (σ : ASt) : c23_3.wp P Q a σ = ACode.wp P (.ops [
    ⟨(some 17), none, .q (.mv (.t 3)), []⟩,
    ⟨(some 18), none, .q (.bin .eql (.t 17) (.v (.int .i64 0))), []⟩,
    ⟨(some 19), none, .q (.mv (.t 18)), []⟩,
    ⟨(some 20), (some (19, true)), .q (.mv (.t 1)), []⟩,
    ⟨(some 21), (some (19, true)), .q (.len (.t 20)), []⟩,
    ⟨(some 22), (some (19, true)), .q (.bin .eql (.t 21) (.v (.int .i64 9))), []⟩,
    ⟨(some 23), none, .q (.pick (.t 19) (.t 22) (.v (.bool false))), []⟩,
    ⟨(some 24), none, .q (.mv (.t 23)), []⟩,
    ⟨(some 25), (some (24, true)), .q (.mv (.t 1)), []⟩,
    ⟨(some 26), (some (24, true)), .q (.ia 4 (.t 25) (.v (.int .i64 0))), []⟩,
    ⟨(some 27), (some (24, true)), .q (.ld (some 4) (.t 26)), []⟩,
    ⟨(some 28), (some (24, true)), .q (.build [(.int .i64 0), (.str []), (.int .i64 0), (.int .i64 0)] [(0, 1, (.v (.int .i64 3))), (1, 1, (.v (.str [83, 85, 77])))]), []⟩,
    ⟨(some 29), (some (24, true)), .q (.eqs false [(0, 0), (1, 2), (2, 0), (3, 0)] (.t 27) (.t 28)), []⟩,
    ⟨(some 30), none, .q (.pick (.t 24) (.t 29) (.v (.bool false))), []⟩,
    ⟨(some 31), none, .q (.mv (.t 30)), []⟩,
    ⟨(some 32), (some (31, true)), .q (.mv (.t 1)), []⟩,
    ⟨(some 33), (some (31, true)), .q (.ia 4 (.t 32) (.v (.int .i64 6))), []⟩,
    ⟨(some 34), (some (31, true)), .q (.fa 1 (.t 33)), []⟩,
    ⟨(some 35), (some (31, true)), .q (.ld none (.t 34)), []⟩,
    ⟨(some 36), (some (31, true)), .q (.bin .eql (.t 35) (.v (.str [60, 61]))), []⟩,
    ⟨(some 37), none, .q (.pick (.t 31) (.t 36) (.v (.bool false))), []⟩,
    ⟨(some 38), none, .q (.mv (.t 37)), []⟩,
    ⟨(some 39), (some (38, true)), .q (.mv (.t 1)), []⟩,
    ⟨(some 40), (some (38, true)), .q (.ia 4 (.t 39) (.v (.int .i64 7))), []⟩,
    ⟨(some 41), (some (38, true)), .q (.fa 2 (.t 40)), []⟩,
    ⟨(some 42), (some (38, true)), .q (.ld none (.t 41)), []⟩,
    ⟨(some 43), (some (38, true)), .q (.bin .eql (.t 42) (.v (.int .i64 14))), []⟩,
    ⟨(some 44), none, .q (.pick (.t 38) (.t 43) (.v (.bool false))), []⟩,
    ⟨(some 45), none, .q (.mv (.t 44)), []⟩,
    ⟨(some 46), (some (45, true)), .q (.mv (.t 1)), []⟩,
    ⟨(some 47), (some (45, true)), .q (.ia 4 (.t 46) (.v (.int .i64 7))), []⟩,
    ⟨(some 48), (some (45, true)), .q (.fa 3 (.t 47)), []⟩,
    ⟨(some 49), (some (45, true)), .q (.ld none (.t 48)), []⟩,
    ⟨(some 50), (some (45, true)), .q (.bin .eql (.t 49) (.v (.int .i64 12))), []⟩,
    ⟨(some 51), none, .q (.pick (.t 45) (.t 50) (.v (.bool false))), []⟩,
    ⟨(some 52), none, .q (.mv (.t 51)), []⟩,
    ⟨(some 53), (some (52, true)), .q (.mv (.t 6)), []⟩,
    ⟨(some 54), (some (52, true)), .q (.bin .eql (.t 53) (.v (.int .i64 10))), []⟩,
    ⟨(some 55), none, .q (.pick (.t 52) (.t 54) (.v (.bool false))), []⟩,
    ⟨(some 56), none, .q (.mv (.t 55)), []⟩,
    ⟨(some 57), (some (56, true)), .q (.mv (.t 5)), []⟩,
    ⟨(some 58), (some (56, true)), .q (.bin .eql (.t 57) (.v (.int .i64 1))), []⟩,
    ⟨(some 59), none, .q (.pick (.t 56) (.t 58) (.v (.bool false))), []⟩,
    ⟨(some 0), none, .q (.mv (.t 59)), []⟩]) Q a σ := id rfl
@[go_sem] theorem c23_4_wp (P : Program) (Q : APost) (a : AFr) (σ : ASt) : c23_4.wp P Q a σ = ACode.wp P (.seq c23_3 .ret) Q a σ := id rfl
@[go_sem] theorem c23_5_wp (P : Program) (Q : APost) (a : AFr) (σ : ASt) : c23_5.wp P Q a σ = ACode.wp P (.seq c23_2 c23_4) Q a σ := id rfl
@[go_sem] theorem c23_6_wp (P : Program) (Q : APost) (a : AFr) (σ : ASt) : c23_6.wp P Q a σ = ACode.wp P (.seq c23_1 c23_5) Q a σ := id rfl
@[go_sem] theorem c23_7_wp (P : Program) (Q : APost) (a : AFr) (σ : ASt) : c23_7.wp P Q a σ = ACode.wp P (.seq c23_0 c23_6) Q a σ := id rfl
def c23 : AFn := ⟨60, [.t 0], c23_7⟩
set_option maxRecDepth 100000 in
theorem c23_ok : compF Tryd.prog Tryd.f23 = some c23 := by kernel_rfl
theorem a23 {args : List AV} {σ : ASt} {R : AV → ASt → Prop} (hl : args.length ≤ 60) (h : c23_7.wp Tryd.prog (RetQ [.t 0] R) (init args) σ) : ACalls Tryd.prog 23 args σ R := acalls_of Tryd.func23 c23_ok hl h

/-! 24: tabular/token.Lex -/
def c24_0 : ACode := .ops [
    ⟨(some 2), none, .q (.mv (.v (.sl .full []))), []⟩,
    ⟨(some 3), none, .q (.mv (.v (.int .i64 0))), []⟩,
    ⟨(some 4), none, .q (.mv (.v (.int .i64 0))), []⟩]
def c24_1 : ACode := .ops [
    ⟨(some 7), none, .q (.mv (.t 0)), []⟩,
    ⟨(some 8), none, .q (.lenS (.t 7)), []⟩,
    ⟨(some 9), none, .q (.bin .gtr (.t 8) (.v (.int .i64 2000))), []⟩]
def c24_2 : ACode := .ops [
    ⟨(some 2), none, .q (.mv (.v (.sl .full []))), []⟩,
    ⟨(some 3), none, .q (.mv (.v (.int .i64 0))), []⟩,
    ⟨(some 4), none, .q (.mv (.v (.int .i64 11))), []⟩]
def c24_3 : ACode := .seq c24_2 .ret
def c24_4 : ACode := .cond (.t 9) c24_3 .skip
def c24_5 : ACode := .seq c24_1 c24_4
def c24_6 : ACode := .ops [
    ⟨(some 10), none, .q (.mv (.t 0)), []⟩,
    ⟨(some 11), none, .q (.build [(.str []), (.int .i64 0), (.int .i64 0), (.sl .full [])] [(0, 1, (.t 10))]), []⟩,
    ⟨(some 12), none, .e (.box (.t 11)), []⟩,
    ⟨(some 5), none, .q (.mv (.t 12)), []⟩]
def c24_7 : ACode := .ops [
    ⟨(some 13), none, .q (.mv (.t 5)), []⟩,
    ⟨(some 14), none, .q (.nc (.t 13)), []⟩,
    ⟨(some 15), none, .q (.fa 1 (.t 14)), []⟩,
    ⟨(some 16), none, .q (.ld none (.t 15)), []⟩,
    ⟨(some 17), none, .q (.mv (.t 0)), []⟩,
    ⟨(some 18), none, .q (.lenS (.t 17)), []⟩,
    ⟨(some 19), none, .q (.bin .lss (.t 16) (.t 18)), []⟩]
def c24_8 : ACode := .cond (.t 19) .skip (.exit 0)
def c24_9 : ACode := .seq c24_7 c24_8
def c24_10 : ACode := .ops [
    ⟨(some 20), none, .q (.mv (.t 5)), []⟩,
    ⟨(some 21), none, .e (.call 38 [(.t 20)]), []⟩,
    ⟨(some 6), none, .q (.mv (.t 21)), []⟩]
def c24_11 : ACode := .ops [
    ⟨(some 22), none, .q (.mv (.t 6)), []⟩,
    ⟨(some 23), none, .q (.bin .neq (.t 22) (.v (.int .i64 0))), []⟩]
def c24_12 : ACode := .ops [
    ⟨(some 24), none, .q (.mv (.t 5)), []⟩,
    ⟨(some 25), none, .q (.nc (.t 24)), []⟩,
    ⟨(some 26), none, .q (.fa 1 (.t 25)), []⟩,
    ⟨(some 27), none, .q (.ld none (.t 26)), []⟩,
    ⟨(some 28), none, .q (.mv (.t 6)), []⟩,
    ⟨(some 2), none, .q (.mv (.v (.sl .full []))), []⟩,
    ⟨(some 3), none, .q (.mv (.t 27)), []⟩,
    ⟨(some 4), none, .q (.mv (.t 28)), []⟩]
def c24_13 : ACode := .seq c24_12 .ret
def c24_14 : ACode := .cond (.t 23) c24_13 .skip
def c24_15 : ACode := .seq c24_11 c24_14
def c24_16 : ACode := .seq c24_10 c24_15
def c24_17 : ACode := .block 1 c24_16
def c24_18 : ACode := .seq c24_9 c24_17
def c24_19 : ACode := .loop c24_18
def c24_20 : ACode := .block 0 c24_19
def c24_21 : ACode := .ops [
    ⟨(some 29), none, .q (.mv (.t 5)), []⟩,
    ⟨(some 30), none, .e (.call 39 [(.t 29), (.v (.int .i64 0)), (.v (.str [])), (.v (.int .i64 0))]), []⟩]
def c24_22 : ACode := .ops [
    ⟨(some 31), none, .q (.mv (.t 5)), []⟩,
    ⟨(some 32), none, .q (.nc (.t 31)), []⟩,
    ⟨(some 33), none, .q (.fa 3 (.t 32)), []⟩,
    ⟨(some 34), none, .q (.ld none (.t 33)), []⟩,
    ⟨(some 2), none, .q (.mv (.t 34)), []⟩,
    ⟨(some 3), none, .q (.mv (.v (.int .i64 0))), []⟩,
    ⟨(some 4), none, .q (.mv (.v (.int .i64 0))), []⟩]
def c24_23 : ACode := .seq c24_22 .ret
def c24_24 : ACode := .seq c24_21 c24_23
def c24_25 : ACode := .seq c24_20 c24_24
def c24_26 : ACode := .seq c24_6 c24_25
def c24_27 : ACode := .seq c24_5 c24_26
def c24_28 : ACode := .seq c24_0 c24_27
@[go_sem] theorem c24_0_wp (P : Program) (Q : APost) (a : AFr) (σ : ASt) : c24_0.wp P Q a σ = ACode.wp P (.ops [
    ⟨(some 2), none, .q (.mv (.v (.sl .full []))), []⟩,
    ⟨(some 3), none, .q (.mv (.v (.int .i64 0))), []⟩,
    ⟨(some 4), none, .q (.mv (.v (.int .i64 0))), []⟩]) Q a σ := id rfl
@[go_sem] theorem c24_1_wp (P : Program) (Q : APost) (a : AFr) (σ : ASt) : c24_1.wp P Q a σ = ACode.wp P (.ops [
    ⟨(some 7), none, .q (.mv (.t 0)), []⟩,
    ⟨(some 8), none, .q (.lenS (.t 7)), []⟩,
    ⟨(some 9), none, .q (.bin .gtr (.t 8) (.v (.int .i64 2000))), []⟩]) Q a σ := id rfl
@[go_sem] theorem c24_2_wp (P : Program) (Q : APost) (a : AFr) (σ : ASt) : c24_2.wp P Q a σ = ACode.wp P (.ops [
    ⟨(some 2), none, .q (.mv (.v (.sl .full []))), []⟩,
    ⟨(some 3), none, .q (.mv (.v (.int .i64 0))), []⟩,
    ⟨(some 4), none, .q (.mv (.v (.int .i64 11))), []⟩]) Q a σ := id rfl
@[go_sem] theorem c24_3_wp (P : Program) (Q : APost) (a : AFr) (σ : ASt) : c24_3.wp P Q a σ = ACode.wp P (.seq c24_2 .ret) Q a σ := id rfl
@[go_sem] theorem c24_4_wp (P : Program) (Q : APost) (a : AFr) (σ : ASt) : c24_4.wp P Q a σ = ACode.wp P (.cond (.t 9) c24_3 .skip) Q a σ := id rfl
@[go_sem] theorem c24_5_wp (P : Program) (Q : APost) (a : AFr) (σ : ASt) : c24_5.wp P Q a σ = ACode.wp P (.seq c24_1 c24_4) Q a σ := id rfl
@[go_sem] theorem c24_6_wp (P : Program) (Q : APost) (a : AFr) (σ : ASt) : c24_6.wp P Q a σ = ACode.wp P (.ops [
    ⟨(some 10), none, .q (.mv (.t 0)), []⟩,
    ⟨(some 11), none, .q (.build [(.str []), (.int .i64 0), (.int .i64 0), (.sl .full [])] [(0, 1, (.t 10))]), []⟩,
    ⟨(some 12), none, .e (.box (.t 11)), []⟩,
    ⟨(some 5), none, .q (.mv (.t 12)), []⟩]) Q a σ := id rfl
@[go_sem] theorem c24_7_wp (P : Program) (Q : APost) (a : AFr) (σ : ASt) : c24_7.wp P Q a σ = ACode.wp P (.ops [
    ⟨(some 13), none, .q (.mv (.t 5)), []⟩,
    ⟨(some 14), none, .q (.nc (.t 13)), []⟩,
    ⟨(some 15), none, .q (.fa 1 (.t 14)), []⟩,
    ⟨(some 16), none, .q (.ld none (.t 15)), []⟩,
    ⟨(some 17), none, .q (.mv (.t 0)), []⟩,
    ⟨(some 18), none, .q (.lenS (.t 17)), []⟩,
    ⟨(some 19), none, .q (.bin .lss (.t 16) (.t 18)), []⟩]) Q a σ := id rfl
@[go_sem] theorem c24_8_wp (P : Program) (Q : APost) (a : AFr) (σ : ASt) : c24_8.wp P Q a σ = ACode.wp P (.cond (.t 19) .skip (.exit 0)) Q a σ := id rfl
@[go_sem] theorem c24_9_wp (P : Program) (Q : APost) (a : AFr) (σ : ASt) : c24_9.wp P Q a σ = ACode.wp P (.seq c24_7 c24_8) Q a σ := id rfl
@[go_sem] theorem c24_10_wp (P : Program) (Q : APost) (a : AFr) (σ : ASt) : c24_10.wp P Q a σ = ACode.wp P (.ops [
    ⟨(some 20), none, .q (.mv (.t 5)), []⟩,
    ⟨(some 21), none, .e (.call 38 [(.t 20)]), []⟩,
    ⟨(some 6), none, .q (.mv (.t 21)), []⟩]) Q a σ := id rfl
@[go_sem] theorem c24_11_wp (P : Program) (Q : APost) (a : AFr) (σ : ASt) : c24_11.wp P Q a σ = ACode.wp P (.ops [
    ⟨(some 22), none, .q (.mv (.t 6)), []⟩,
    ⟨(some 23), none, .q (.bin .neq (.t 22) (.v (.int .i64 0))), []⟩]) Q a σ := id rfl
@[go_sem] theorem c24_12_wp (P : Program) (Q : APost) (a : AFr) (σ : ASt) : c24_12.wp P Q a σ = ACode.wp P (.ops [
    ⟨(some 24), none, .q (.mv (.t 5)), []⟩,
    ⟨(some 25), none, .q (.nc (.t 24)), []⟩,
    ⟨(some 26), none, .q (.fa 1 (.t 25)), []⟩,
    ⟨(some 27), none, .q (.ld none (.t 26)), []⟩,
    ⟨(some 28), none, .q (.mv (.t 6)), []⟩,
    ⟨(some 2), none, .q (.mv (.v (.sl .full []))), []⟩,
    ⟨(some 3), none, .q (.mv (.t 27)), []⟩,
    ⟨(some 4), none, .q (.mv (.t 28)), []⟩]) Q a σ := id rfl
@[go_sem] theorem c24_13_wp (P : Program) (Q : APost) (a : AFr) (σ : ASt) : c24_13.wp P Q a σ = ACode.wp P (.seq c24_12 .ret) Q a σ := id rfl
@[go_sem] theorem c24_14_wp (P : Program) (Q : APost) (a : AFr) (σ : ASt) : c24_14.wp P Q a σ = ACode.wp P (.cond (.t 23) c24_13 .skip) Q a σ := id rfl
@[go_sem] theorem c24_15_wp (P : Program) (Q : APost) (a : AFr) (σ : ASt) : c24_15.wp P Q a σ = ACode.wp P (.seq c24_11 c24_14) Q a σ := id rfl
@[go_sem] theorem c24_16_wp (P : Program) (Q : APost) (a : AFr) (σ : ASt) : c24_16.wp P Q a σ = ACode.wp P (.seq c24_10 c24_15) Q a σ := id rfl
@[go_sem] theorem c24_17_wp (P : Program) (Q : APost) (a : AFr) (σ : ASt) : c24_17.wp P Q a σ = ACode.wp P (.block 1 c24_16) Q a σ := id rfl
@[go_sem] theorem c24_18_wp (P : Program) (Q : APost) (a : AFr) (σ : ASt) : c24_18.wp P Q a σ = ACode.wp P (.seq c24_9 c24_17) Q a σ := id rfl
@[go_sem] theorem c24_19_wp (P : Program) (Q : APost) (a : AFr) (σ : ASt) : c24_19.wp P Q a σ = ACode.wp P (.loop c24_18) Q a σ := id rfl
@[go_sem] theorem c24_20_wp (P : Program) (Q : APost) (a : AFr) (σ : ASt) : c24_20.wp P Q a σ = ACode.wp P (.block 0 c24_19) Q a σ := id rfl
@[go_sem] theorem c24_21_wp (P : Program) (Q : APost) (a : AFr) (σ : ASt) : c24_21.wp P Q a σ = ACode.wp P (.ops [
    ⟨(some 29), none, .q (.mv (.t 5)), []⟩,
    ⟨(some 30), none, .e (.call 39 [(.t 29), (.v (.int .i64 0)), (.v (.str [])), (.v (.int .i64 0))]), []⟩]) Q a σ := id rfl
@[go_sem] theorem c24_22_wp (P : Program) (Q : APost) (a : AFr) (σ : ASt) : c24_22.wp P Q a σ = ACode.wp P (.ops [
    ⟨(some 31), none, .q (.mv (.t 5)), []⟩,
    ⟨(some 32), none, .q (.nc (.t 31)), []⟩,
    ⟨(some 33), none, .q (.fa 3 (.t 32)), []⟩,
    ⟨(some 34), none, .q (.ld none (.t 33)), []⟩,
    ⟨(some 2), none, .q (.mv (.t 34)), []⟩,
    ⟨(some 3), none, .q (.mv (.v (.int .i64 0))), []⟩,
    ⟨(some 4), none, .q (.mv (.v (.int .i64 0))), []⟩]) Q a σ := id rfl
@[go_sem] theorem c24_23_wp (P : Program) (Q : APost) (a : AFr) (σ : ASt) : c24_23.wp P Q a σ = ACode.wp P (.seq c24_22 .ret) Q a σ := id rfl
@[go_sem] theorem c24_24_wp (P : Program) (Q : APost) (a : AFr) (σ : ASt) : c24_24.wp P Q a σ = ACode.wp P (.seq c24_21 c24_23) Q a σ := id rfl
@[go_sem] theorem c24_25_wp (P : Program) (Q : APost) (a : AFr) (σ : ASt) : c24_25.wp P Q a σ = ACode.wp P (.seq c24_20 c24_24) Q a σ := id rfl
@[go_sem] theorem c24_26_wp (P : Program) (Q : APost) (a : AFr) (σ : ASt) : c24_26.wp P Q a σ = ACode.wp P (.seq c24_6 c24_25) Q a σ := id rfl
@[go_sem] theorem c24_27_wp (P : Program) (Q : APost) (a : AFr) (σ : ASt) : c24_27.wp P Q a σ = ACode.wp P (.seq c24_5 c24_26) Q a σ := id rfl
@[go_sem] theorem c24_28_wp (P : Program) (Q : APost) (a : AFr) (σ : ASt) : c24_28.wp P Q a σ = ACode.wp P (.seq c24_0 c24_27) Q a σ := id rfl
def c24 : AFn := ⟨35, [.t 2, .t 3, .t 4], c24_28⟩
set_option maxRecDepth 100000 in
theorem c24_ok : compF Tryd.prog Tryd.f24 = some c24 := by kernel_rfl
theorem a24 {args : List AV} {σ : ASt} {R : AV → ASt → Prop} (hl : args.length ≤ 35) (h : c24_28.wp Tryd.prog (RetQ [.t 2, .t 3, .t 4] R) (init args) σ) : ACalls Tryd.prog 24 args σ R := acalls_of Tryd.func24 c24_ok hl h

/-! 25: tabular/token.Signs -/
def c25_0 : ACode := .ops [
    ⟨(some 2), none, .q (.mv (.v (.int .i64 0))), []⟩,
    ⟨(some 3), none, .q (.mv (.v (.bool false))), []⟩]
def c25_1 : ACode := .ops [
    ⟨(some 4), none, .q (.mv (.v (.int .i64 0))), []⟩]
def c25_2 : ACode := .ops [
    ⟨(some 9), none, .q (.mv (.t 0)), []⟩,
    ⟨(some 10), none, .e (.rng (.t 9)), []⟩]
def c25_3 : ACode := .ops [
    ⟨(some 11), none, .e (.nxt (.t 10)), []⟩,
    ⟨(some 12), none, .q (.ext 0 (.t 11)), []⟩]
def c25_4 : ACode := .cond (.t 12) .skip (.exit 0)
def c25_5 : ACode := .ops [
    ⟨(some 13), none, .q (.ext 1 (.t 11)), []⟩,
    ⟨(some 14), none, .q (.ext 2 (.t 11)), []⟩,
    ⟨(some 5), none, .q (.mv (.t 13)), []⟩,
    ⟨(some 6), none, .q (.mv (.t 14)), []⟩]
def c25_6 : ACode := .ops [
    ⟨(some 15), none, .q (.mv (.t 6)), []⟩,
    ⟨(some 16), none, .q (.bin .eql (.t 15) (.v (.int .i32 65533))), []⟩]
def c25_7 : ACode := .ops [
    ⟨(some 18), none, .q (.mv (.t 0)), []⟩,
    ⟨(some 19), none, .q (.mv (.t 5)), []⟩,
    ⟨(some 20), none, .q (.slfrom (true, 0) (.t 18) (.t 19)), []⟩,
    ⟨(some 21), none, .e (.call 40 [(.t 20)]), []⟩,
    ⟨(some 17), none, .q (.mv (.t 21)), []⟩,
    ⟨(some 22), none, .q (.ext 0 (.t 17)), []⟩,
    ⟨(some 23), none, .q (.ext 1 (.t 17)), []⟩,
    ⟨(some 7), none, .q (.mv (.t 22)), []⟩,
    ⟨(some 8), none, .q (.mv (.t 23)), []⟩]
def c25_8 : ACode := .ops [
    ⟨(some 24), none, .q (.mv (.t 8)), []⟩,
    ⟨(some 25), none, .q (.bin .eql (.t 24) (.v (.int .i64 1))), []⟩]
def c25_9 : ACode := .ops [
    ⟨(some 2), none, .q (.mv (.v (.int .i64 0))), []⟩,
    ⟨(some 3), none, .q (.mv (.v (.bool false))), []⟩]
def c25_10 : ACode := .seq c25_9 .ret
def c25_11 : ACode := .cond (.t 25) c25_10 .skip
def c25_12 : ACode := .seq c25_8 c25_11
def c25_13 : ACode := .seq c25_7 c25_12
def c25_14 : ACode := .cond (.t 16) c25_13 .skip
def c25_15 : ACode := .seq c25_6 c25_14
def c25_16 : ACode := .ops [
    ⟨(some 26), none, .q (.mv (.t 4)), []⟩,
    ⟨(some 27), none, .q (.bin .add (.t 26) (.v (.int .i64 1))), []⟩,
    ⟨(some 4), none, .q (.mv (.t 27)), []⟩]
def c25_17 : ACode := .seq c25_15 c25_16
def c25_18 : ACode := .seq c25_5 c25_17
def c25_19 : ACode := .block 1 c25_18
def c25_20 : ACode := .seq c25_4 c25_19
def c25_21 : ACode := .seq c25_3 c25_20
def c25_22 : ACode := .loop c25_21
def c25_23 : ACode := .block 0 c25_22
def c25_24 : ACode := .seq c25_2 c25_23
def c25_25 : ACode := .ops [
    ⟨(some 28), none, .q (.mv (.t 4)), []⟩,
    ⟨(some 2), none, .q (.mv (.t 28)), []⟩,
    ⟨(some 3), none, .q (.mv (.v (.bool true))), []⟩]
def c25_26 : ACode := .seq c25_25 .ret
def c25_27 : ACode := .seq c25_24 c25_26
def c25_28 : ACode := .seq c25_1 c25_27
def c25_29 : ACode := .seq c25_0 c25_28
@[go_sem] theorem c25_0_wp (P : Program) (Q : APost) (a : AFr) (σ : ASt) : c25_0.wp P Q a σ = ACode.wp P (.ops [
    ⟨(some 2), none, .q (.mv (.v (.int .i64 0))), []⟩,
    ⟨(some 3), none, .q (.mv (.v (.bool false))), []⟩]) Q a σ := id rfl
@[go_sem] theorem c25_1_wp (P : Program) (Q : APost) (a : AFr) (σ : ASt) : c25_1.wp P Q a σ = ACode.wp P (.ops [
    ⟨(some 4), none, .q (.mv (.v (.int .i64 0))), []⟩]) Q a σ := id rfl
@[go_sem] theorem c25_2_wp (P : Program) (Q : APost) (a : AFr) (σ : ASt) : c25_2.wp P Q a σ = ACode.wp P (.ops [
    ⟨(some 9), none, .q (.mv (.t 0)), []⟩,
    ⟨(some 10), none, .e (.rng (.t 9)), []⟩]) Q a σ := id rfl
@[go_sem] theorem c25_3_wp (P : Program) (Q : APost) (a : AFr) (σ : ASt) : c25_3.wp P Q a σ = ACode.wp P (.ops [
    ⟨(some 11), none, .e (.nxt (.t 10)), []⟩,
    ⟨(some 12), none, .q (.ext 0 (.t 11)), []⟩]) Q a σ := id rfl
@[go_sem] theorem c25_4_wp (P : Program) (Q : APost) (a : AFr) (σ : ASt) : c25_4.wp P Q a σ = ACode.wp P (.cond (.t 12) .skip (.exit 0)) Q a σ := id rfl
@[go_sem] theorem c25_5_wp (P : Program) (Q : APost) (a : AFr) (σ : ASt) : c25_5.wp P Q a σ = ACode.wp P (.ops [
    ⟨(some 13), none, .q (.ext 1 (.t 11)), []⟩,
    ⟨(some 14), none, .q (.ext 2 (.t 11)), []⟩,
    ⟨(some 5), none, .q (.mv (.t 13)), []⟩,
    ⟨(some 6), none, .q (.mv (.t 14)), []⟩]) Q a σ := id rfl
@[go_sem] theorem c25_6_wp (P : Program) (Q : APost) (a : AFr) (σ : ASt) : c25_6.wp P Q a σ = ACode.wp P (.ops [
    ⟨(some 15), none, .q (.mv (.t 6)), []⟩,
    ⟨(some 16), none, .q (.bin .eql (.t 15) (.v (.int .i32 65533))), []⟩]) Q a σ := id rfl
@[go_sem] theorem c25_7_wp (P : Program) (Q : APost) (a : AFr) (σ : ASt) : c25_7.wp P Q a σ = ACode.wp P (.ops [
    ⟨(some 18), none, .q (.mv (.t 0)), []⟩,
    ⟨(some 19), none, .q (.mv (.t 5)), []⟩,
    ⟨(some 20), none, .q (.slfrom (true, 0) (.t 18) (.t 19)), []⟩,
    ⟨(some 21), none, .e (.call 40 [(.t 20)]), []⟩,
    ⟨(some 17), none, .q (.mv (.t 21)), []⟩,
    ⟨(some 22), none, .q (.ext 0 (.t 17)), []⟩,
    ⟨(some 23), none, .q (.ext 1 (.t 17)), []⟩,
    ⟨(some 7), none, .q (.mv (.t 22)), []⟩,
    ⟨(some 8), none, .q (.mv (.t 23)), []⟩]) Q a σ := id rfl
@[go_sem] theorem c25_8_wp (P : Program) (Q : APost) (a : AFr) (σ : ASt) : c25_8.wp P Q a σ = ACode.wp P (.ops [
    ⟨(some 24), none, .q (.mv (.t 8)), []⟩,
    ⟨(some 25), none, .q (.bin .eql (.t 24) (.v (.int .i64 1))), []⟩]) Q a σ := id rfl
@[go_sem] theorem c25_9_wp (P : Program) (Q : APost) (a : AFr) (σ : ASt) : c25_9.wp P Q a σ = ACode.wp P (.ops [
    ⟨(some 2), none, .q (.mv (.v (.int .i64 0))), []⟩,
    ⟨(some 3), none, .q (.mv (.v (.bool false))), []⟩]) Q a σ := id rfl
@[go_sem] theorem c25_10_wp (P : Program) (Q : APost) (a : AFr) (σ : ASt) : c25_10.wp P Q a σ = ACode.wp P (.seq c25_9 .ret) Q a σ := id rfl
@[go_sem] theorem c25_11_wp (P : Program) (Q : APost) (a : AFr) (σ : ASt) : c25_11.wp P Q a σ = ACode.wp P (.cond (.t 25) c25_10 .skip) Q a σ := id rfl
@[go_sem] theorem c25_12_wp (P : Program) (Q : APost) (a : AFr) (σ : ASt) : c25_12.wp P Q a σ = ACode.wp P (.seq c25_8 c25_11) Q a σ := id rfl
@[go_sem] theorem c25_13_wp (P : Program) (Q : APost) (a : AFr) (σ : ASt) : c25_13.wp P Q a σ = ACode.wp P (.seq c25_7 c25_12) Q a σ := id rfl
@[go_sem] theorem c25_14_wp (P : Program) (Q : APost) (a : AFr) (σ : ASt) : c25_14.wp P Q a σ = ACode.wp P (.cond (.t 16) c25_13 .skip) Q a σ := id rfl
@[go_sem] theorem c25_15_wp (P : Program) (Q : APost) (a : AFr) (σ : ASt) : c25_15.wp P Q a σ = ACode.wp P (.seq c25_6 c25_14) Q a σ := id rfl
@[go_sem] theorem c25_16_wp (P : Program) (Q : APost) (a : AFr) (σ : ASt) : c25_16.wp P Q a σ = ACode.wp P (.ops [
    ⟨(some 26), none, .q (.mv (.t 4)), []⟩,
    ⟨(some 27), none, .q (.bin .add (.t 26) (.v (.int .i64 1))), []⟩,
    ⟨(some 4), none, .q (.mv (.t 27)), []⟩]) Q a σ := id rfl
@[go_sem] theorem c25_17_wp (P : Program) (Q : APost) (a : AFr) (σ : ASt) : c25_17.wp P Q a σ = ACode.wp P (.seq c25_15 c25_16) Q a σ := id rfl
@[go_sem] theorem c25_18_wp (P : Program) (Q : APost) (a : AFr) (σ : ASt) : c25_18.wp P Q a σ = ACode.wp P (.seq c25_5 c25_17) Q a σ := id rfl
@[go_sem] theorem c25_19_wp (P : Program) (Q : APost) (a : AFr) (σ : ASt) : c25_19.wp P Q a σ = ACode.wp P (.block 1 c25_18) Q a σ := id rfl
@[go_sem] theorem c25_20_wp (P : Program) (Q : APost) (a : AFr) (σ : ASt) : c25_20.wp P Q a σ = ACode.wp P (.seq c25_4 c25_19) Q a σ := id rfl
@[go_sem] theorem c25_21_wp (P : Program) (Q : APost) (a : AFr) (σ : ASt) : c25_21.wp P Q a σ = ACode.wp P (.seq c25_3 c25_20) Q a σ := id rfl
@[go_sem] theorem c25_22_wp (P : Program) (Q : APost) (a : AFr) (σ : ASt) : c25_22.wp P Q a σ = ACode.wp P (.loop c25_21) Q a σ := id rfl
@[go_sem] theorem c25_23_wp (P : Program) (Q : APost) (a : AFr) (σ : ASt) : c25_23.wp P Q a σ = ACode.wp P (.block 0 c25_22) Q a σ := id rfl
@[go_sem] theorem c25_24_wp (P : Program) (Q : APost) (a : AFr) (σ : ASt) : c25_24.wp P Q a σ = ACode.wp P (.seq c25_2 c25_23) Q a σ := id rfl
@[go_sem] theorem c25_25_wp (P : Program) (Q : APost) (a : AFr) (σ : ASt) : c25_25.wp P Q a σ = ACode.wp P (.ops [
    ⟨(some 28), none, .q (.mv (.t 4)), []⟩,
    ⟨(some 2), none, .q (.mv (.t 28)), []⟩,
    ⟨(some 3), none, .q (.mv (.v (.bool true))), []⟩]) Q a σ := id rfl
@[go_sem] theorem c25_26_wp (P : Program) (Q : APost) (a : AFr) (σ : ASt) : c25_26.wp P Q a σ = ACode.wp P (.seq c25_25 .ret) Q a σ := id rfl
@[go_sem] theorem c25_27_wp (P : Program) (Q : APost) (a : AFr) (σ : ASt) : c25_27.wp P Q a σ = ACode.wp P (.seq c25_24 c25_26) Q a σ := id rfl
@[go_sem] theorem c25_28_wp (P : Program) (Q : APost) (a : AFr) (σ : ASt) : c25_28.wp P Q a σ = ACode.wp P (.seq c25_1 c25_27) Q a σ := id rfl
@[go_sem] theorem c25_29_wp (P : Program) (Q : APost) (a : AFr) (σ : ASt) : c25_29.wp P Q a σ = ACode.wp P (.seq c25_0 c25_28) Q a σ := id rfl
def c25 : AFn := ⟨29, [.t 2, .t 3], c25_29⟩
set_option maxRecDepth 100000 in
theorem c25_ok : compF Tryd.prog Tryd.f25 = some c25 := by kernel_rfl
theorem a25 {args : List AV} {σ : ASt} {R : AV → ASt → Prop} (hl : args.length ≤ 29) (h : c25_29.wp Tryd.prog (RetQ [.t 2, .t 3] R) (init args) σ) : ACalls Tryd.prog 25 args σ R := acalls_of Tryd.func25 c25_ok hl h

/-! 38: (*tabular/token.lexer).next -/
def c38_0 : ACode := .ops [
    ⟨(some 2), none, .q (.mv (.v (.int .i64 0))), []⟩]
def c38_1 : ACode := .ops [
    ⟨(some 6), none, .q (.mv (.t 0)), []⟩,
    ⟨(some 7), none, .e (.call 46 [(.t 6)]), []⟩,
    ⟨(some 5), none, .q (.mv (.t 7)), []⟩,
    ⟨(some 8), none, .q (.ext 0 (.t 5)), []⟩,
    ⟨(some 9), none, .q (.ext 1 (.t 5)), []⟩,
    ⟨(some 3), none, .q (.mv (.t 8)), []⟩,
    ⟨(some 4), none, .q (.mv (.t 9)), []⟩]
def c38_2 : ACode := .ops [
    ⟨(some 15), none, .q (.mv (.t 4)), []⟩,
    ⟨(some 16), none, .q (.bin .lss (.t 15) (.v (.int .i64 0))), []⟩,
    ⟨(some 14), none, .q (.mv (.t 16)), []⟩]
def c38_3 : ACode := .ops [
    ⟨(some 2), none, .q (.mv (.v (.int .i64 10))), []⟩]
def c38_4 : ACode := .seq c38_3 .ret
def c38_5 : ACode := .ops [
    ⟨(some 18), none, .q (.mv (.t 3)), []⟩,
    ⟨(some 19), none, .q (.bin .eql (.t 18) (.v (.int .i32 32))), []⟩,
    ⟨(some 17), none, .q (.mv (.t 19)), []⟩]
def c38_6 : ACode := .ops [
    ⟨(some 20), none, .q (.mv (.t 3)), []⟩,
    ⟨(some 21), none, .q (.bin .eql (.t 20) (.v (.int .i32 9))), []⟩,
    ⟨(some 17), none, .q (.mv (.t 21)), []⟩]
def c38_7 : ACode := .ops [
    ⟨(some 22), none, .q (.mv (.t 3)), []⟩,
    ⟨(some 23), none, .q (.bin .eql (.t 22) (.v (.int .i32 10))), []⟩,
    ⟨(some 17), none, .q (.mv (.t 23)), []⟩]
def c38_8 : ACode := .cond (.t 17) .skip c38_7
def c38_9 : ACode := .seq c38_6 c38_8
def c38_10 : ACode := .cond (.t 17) .skip c38_9
def c38_11 : ACode := .seq c38_5 c38_10
def c38_12 : ACode := .ops [
    ⟨(some 24), none, .q (.mv (.t 0)), []⟩,
    ⟨(some 25), none, .q (.mv (.t 0)), []⟩,
    ⟨(some 26), none, .q (.nc (.t 25)), []⟩,
    ⟨(some 27), none, .q (.fa 1 (.t 26)), []⟩,
    ⟨(some 28), none, .q (.ld none (.t 27)), []⟩,
    ⟨(some 29), none, .q (.mv (.t 4)), []⟩,
    ⟨(some 30), none, .q (.bin .add (.t 28) (.t 29)), []⟩,
    ⟨(some 31), none, .e (.call 47 [(.t 24), (.t 30)]), []⟩]
def c38_13 : ACode := .ops [
    ⟨(some 33), none, .q (.mv (.t 3)), []⟩,
    ⟨(some 34), none, .q (.bin .lss (.t 33) (.v (.int .i32 128))), []⟩,
    ⟨(some 35), none, .q (.mv (.t 34)), []⟩,
    ⟨(some 36), (some (35, true)), .q (.mv (.t 3)), []⟩,
    ⟨(some 37), (some (35, true)), .q (.conv .u8 (.t 36)), []⟩,
    ⟨(some 38), (some (35, true)), .e (.call 48 [(.t 37)]), []⟩,
    ⟨(some 39), none, .q (.pick (.t 35) (.t 38) (.v (.bool false))), []⟩,
    ⟨(some 32), none, .q (.mv (.t 39)), []⟩]
def c38_14 : ACode := .ops [
    ⟨(some 40), none, .q (.mv (.t 0)), []⟩,
    ⟨(some 41), none, .e (.call 49 [(.t 40)]), []⟩,
    ⟨(some 2), none, .q (.mv (.t 41)), []⟩]
def c38_15 : ACode := .seq c38_14 .ret
def c38_16 : ACode := .ops [
    ⟨(some 43), none, .q (.mv (.t 3)), []⟩,
    ⟨(some 44), none, .q (.bin .eql (.t 43) (.v (.int .i32 34))), []⟩,
    ⟨(some 42), none, .q (.mv (.t 44)), []⟩]
def c38_17 : ACode := .ops [
    ⟨(some 45), none, .q (.mv (.t 0)), []⟩,
    ⟨(some 46), none, .e (.call 50 [(.t 45)]), []⟩,
    ⟨(some 2), none, .q (.mv (.t 46)), []⟩]
def c38_18 : ACode := .seq c38_17 .ret
def c38_19 : ACode := .ops [
    ⟨(some 48), none, .q (.mv (.t 3)), []⟩,
    ⟨(some 49), none, .q (.bin .eql (.t 48) (.v (.int .i32 35))), []⟩,
    ⟨(some 47), none, .q (.mv (.t 49)), []⟩]
def c38_20 : ACode := .ops [
    ⟨(some 50), none, .q (.mv (.t 0)), []⟩,
    ⟨(some 51), none, .e (.call 51 [(.t 50)]), []⟩,
    ⟨(some 2), none, .q (.mv (.t 51)), []⟩]
def c38_21 : ACode := .seq c38_20 .ret
def c38_22 : ACode := .ops [
    ⟨(some 10), none, .q (.mv (.t 0)), []⟩,
    ⟨(some 11), none, .q (.mv (.t 3)), []⟩,
    ⟨(some 12), none, .q (.mv (.t 4)), []⟩,
    ⟨(some 13), none, .e (.call 52 [(.t 10), (.t 11), (.t 12)]), []⟩,
    ⟨(some 2), none, .q (.mv (.t 13)), []⟩]
def c38_23 : ACode := .seq c38_22 .ret
def c38_24 : ACode := .cond (.t 47) c38_21 c38_23
def c38_25 : ACode := .seq c38_19 c38_24
def c38_26 : ACode := .cond (.t 42) c38_18 c38_25
def c38_27 : ACode := .seq c38_16 c38_26
def c38_28 : ACode := .cond (.t 32) c38_15 c38_27
def c38_29 : ACode := .seq c38_13 c38_28
def c38_30 : ACode := .cond (.t 17) c38_12 c38_29
def c38_31 : ACode := .seq c38_11 c38_30
def c38_32 : ACode := .cond (.t 14) c38_4 c38_31
def c38_33 : ACode := .seq c38_2 c38_32
def c38_34 : ACode := .block 0 c38_33
def c38_35 : ACode := .ops [
    ⟨(some 2), none, .q (.mv (.v (.int .i64 0))), []⟩]
def c38_36 : ACode := .seq c38_35 .ret
def c38_37 : ACode := .seq c38_34 c38_36
def c38_38 : ACode := .seq c38_1 c38_37
def c38_39 : ACode := .seq c38_0 c38_38
@[go_sem] theorem c38_0_wp (P : Program) (Q : APost) (a : AFr) (σ : ASt) : c38_0.wp P Q a σ = ACode.wp P (.ops [
    ⟨(some 2), none, .q (.mv (.v (.int .i64 0))), []⟩]) Q a σ := id rfl
@[go_sem] theorem c38_1_wp (P : Program) (Q : APost) (a : AFr) (σ : ASt) : c38_1.wp P Q a σ = ACode.wp P (.ops [
    ⟨(some 6), none, .q (.mv (.t 0)), []⟩,
    ⟨(some 7), none, .e (.call 46 [(.t 6)]), []⟩,
    ⟨(some 5), none, .q (.mv (.t 7)), []⟩,
    ⟨(some 8), none, .q (.ext 0 (.t 5)), []⟩,
    ⟨(some 9), none, .q (.ext 1 (.t 5)), []⟩,
    ⟨(some 3), none, .q (.mv (.t 8)), []⟩,
    ⟨(some 4), none, .q (.mv (.t 9)), []⟩]) Q a σ := id rfl
@[go_sem] theorem c38_2_wp (P : Program) (Q : APost) (a : AFr) (σ : ASt) : c38_2.wp P Q a σ = ACode.wp P (.ops [
    ⟨(some 15), none, .q (.mv (.t 4)), []⟩,
    ⟨(some 16), none, .q (.bin .lss (.t 15) (.v (.int .i64 0))), []⟩,
    ⟨(some 14), none, .q (.mv (.t 16)), []⟩]) Q a σ := id rfl
@[go_sem] theorem c38_3_wp (P : Program) (Q : APost) (a : AFr) (σ : ASt) : c38_3.wp P Q a σ = ACode.wp P (.ops [
    ⟨(some 2), none, .q (.mv (.v (.int .i64 10))), []⟩]) Q a σ := id rfl
@[go_sem] theorem c38_4_wp (P : Program) (Q : APost) (a : AFr) (σ : ASt) : c38_4.wp P Q a σ = ACode.wp P (.seq c38_3 .ret) Q a σ := id rfl
@[go_sem] theorem c38_5_wp (P : Program) (Q : APost) (a : AFr) (σ : ASt) : c38_5.wp P Q a σ = ACode.wp P (.ops [
    ⟨(some 18), none, .q (.mv (.t 3)), []⟩,
    ⟨(some 19), none, .q (.bin .eql (.t 18) (.v (.int .i32 32))), []⟩,
    ⟨(some 17), none, .q (.mv (.t 19)), []⟩]) Q a σ := id rfl
@[go_sem] theorem c38_6_wp (P : Program) (Q : APost) (a : AFr) (σ : ASt) : c38_6.wp P Q a σ = ACode.wp P (.ops [
    ⟨(some 20), none, .q (.mv (.t 3)), []⟩,
    ⟨(some 21), none, .q (.bin .eql (.t 20) (.v (.int .i32 9))), []⟩,
    ⟨(some 17), none, .q (.mv (.t 21)), []⟩]) Q a σ := id rfl
@[go_sem] theorem c38_7_wp (P : Program) (Q : APost) (a : AFr) (σ : ASt) : c38_7.wp P Q a σ = ACode.wp P (.ops [
    ⟨(some 22), none, .q (.mv (.t 3)), []⟩,
    ⟨(some 23), none, .q (.bin .eql (.t 22) (.v (.int .i32 10))), []⟩,
    ⟨(some 17), none, .q (.mv (.t 23)), []⟩]) Q a σ := id rfl
@[go_sem] theorem c38_8_wp (P : Program) (Q : APost) (a : AFr) (σ : ASt) : c38_8.wp P Q a σ = ACode.wp P (.cond (.t 17) .skip c38_7) Q a σ := id rfl
@[go_sem] theorem c38_9_wp (P : Program) (Q : APost) (a : AFr) (σ : ASt) : c38_9.wp P Q a σ = ACode.wp P (.seq c38_6 c38_8) Q a σ := id rfl
@[go_sem] theorem c38_10_wp (P : Program) (Q : APost) (a : AFr) (σ : ASt) : c38_10.wp P Q a σ = ACode.wp P (.cond (.t 17) .skip c38_9) Q a σ := id rfl
@[go_sem] theorem c38_11_wp (P : Program) (Q : APost) (a : AFr) (σ : ASt) : c38_11.wp P Q a σ = ACode.wp P (.seq c38_5 c38_10) Q a σ := id rfl
@[go_sem] theorem c38_12_wp (P : Program) (Q : APost) (a : AFr) (σ : ASt) : c38_12.wp P Q a σ = ACode.wp P (.ops [
    ⟨(some 24), none, .q (.mv (.t 0)), []⟩,
    ⟨(some 25), none, .q (.mv (.t 0)), []⟩,
    ⟨(some 26), none, .q (.nc (.t 25)), []⟩,
    ⟨(some 27), none, .q (.fa 1 (.t 26)), []⟩,
    ⟨(some 28), none, .q (.ld none (.t 27)), []⟩,
    ⟨(some 29), none, .q (.mv (.t 4)), []⟩,
    ⟨(some 30), none, .q (.bin .add (.t 28) (.t 29)), []⟩,
    ⟨(some 31), none, .e (.call 47 [(.t 24), (.t 30)]), []⟩]) Q a σ := id rfl
@[go_sem] theorem c38_13_wp (P : Program) (Q : APost) (a : AFr) (σ : ASt) : c38_13.wp P Q a σ = ACode.wp P (.ops [
    ⟨(some 33), none, .q (.mv (.t 3)), []⟩,
    ⟨(some 34), none, .q (.bin .lss (.t 33) (.v (.int .i32 128))), []⟩,
    ⟨(some 35), none, .q (.mv (.t 34)), []⟩,
    ⟨(some 36), (some (35, true)), .q (.mv (.t 3)), []⟩,
    ⟨(some 37), (some (35, true)), .q (.conv .u8 (.t 36)), []⟩,
    ⟨(some 38), (some (35, true)), .e (.call 48 [(.t 37)]), []⟩,
    ⟨(some 39), none, .q (.pick (.t 35) (.t 38) (.v (.bool false))), []⟩,
    ⟨(some 32), none, .q (.mv (.t 39)), []⟩]) Q a σ := id rfl
@[go_sem] theorem c38_14_wp (P : Program) (Q : APost) (a : AFr) (σ : ASt) : c38_14.wp P Q a σ = ACode.wp P (.ops [
    ⟨(some 40), none, .q (.mv (.t 0)), []⟩,
    ⟨(some 41), none, .e (.call 49 [(.t 40)]), []⟩,
    ⟨(some 2), none, .q (.mv (.t 41)), []⟩]) Q a σ := id rfl
@[go_sem] theorem c38_15_wp (P : Program) (Q : APost) (a : AFr) (σ : ASt) : c38_15.wp P Q a σ = ACode.wp P (.seq c38_14 .ret) Q a σ := id rfl
@[go_sem] theorem c38_16_wp (P : Program) (Q : APost) (a : AFr) (σ : ASt) : c38_16.wp P Q a σ = ACode.wp P (.ops [
    ⟨(some 43), none, .q (.mv (.t 3)), []⟩,
    ⟨(some 44), none, .q (.bin .eql (.t 43) (.v (.int .i32 34))), []⟩,
    ⟨(some 42), none, .q (.mv (.t 44)), []⟩]) Q a σ := id rfl
@[go_sem] theorem c38_17_wp (P : Program) (Q : APost) (a : AFr) (σ : ASt) : c38_17.wp P Q a σ = ACode.wp P (.ops [
    ⟨(some 45), none, .q (.mv (.t 0)), []⟩,
    ⟨(some 46), none, .e (.call 50 [(.t 45)]), []⟩,
    ⟨(some 2), none, .q (.mv (.t 46)), []⟩]) Q a σ := id rfl
@[go_sem] theorem c38_18_wp (P : Program) (Q : APost) (a : AFr) (σ : ASt) : c38_18.wp P Q a σ = ACode.wp P (.seq c38_17 .ret) Q a σ := id rfl
@[go_sem] theorem c38_19_wp (P : Program) (Q : APost) (a : AFr) (σ : ASt) : c38_19.wp P Q a σ = ACode.wp P (.ops [
    ⟨(some 48), none, .q (.mv (.t 3)), []⟩,
    ⟨(some 49), none, .q (.bin .eql (.t 48) (.v (.int .i32 35))), []⟩,
    ⟨(some 47), none, .q (.mv (.t 49)), []⟩]) Q a σ := id rfl
@[go_sem] theorem c38_20_wp (P : Program) (Q : APost) (a : AFr) (σ : ASt) : c38_20.wp P Q a σ = ACode.wp P (.ops [
    ⟨(some 50), none, .q (.mv (.t 0)), []⟩,
    ⟨(some 51), none, .e (.call 51 [(.t 50)]), []⟩,
    ⟨(some 2), none, .q (.mv (.t 51)), []⟩]) Q a σ := id rfl
@[go_sem] theorem c38_21_wp (P : Program) (Q : APost) (a : AFr) (σ : ASt) : c38_21.wp P Q a σ = ACode.wp P (.seq c38_20 .ret) Q a σ := id rfl
@[go_sem] theorem c38_22_wp (P : Program) (Q : APost) (a : AFr) (σ : ASt) : c38_22.wp P Q a σ = ACode.wp P (.ops [
    ⟨(some 10), none, .q (.mv (.t 0)), []⟩,
    ⟨(some 11), none, .q (.mv (.t 3)), []⟩,
    ⟨(some 12), none, .q (.mv (.t 4)), []⟩,
    ⟨(some 13), none, .e (.call 52 [(.t 10), (.t 11), (.t 12)]), []⟩,
    ⟨(some 2), none, .q (.mv (.t 13)), []⟩]) Q a σ := id rfl
@[go_sem] theorem c38_23_wp (P : Program) (Q : APost) (a : AFr) (σ : ASt) : c38_23.wp P Q a σ = ACode.wp P (.seq c38_22 .ret) Q a σ := id rfl
@[go_sem] theorem c38_24_wp (P : Program) (Q : APost) (a : AFr) (σ : ASt) : c38_24.wp P Q a σ = ACode.wp P (.cond (.t 47) c38_21 c38_23) Q a σ := id rfl
@[go_sem] theorem c38_25_wp (P : Program) (Q : APost) (a : AFr) (σ : ASt) : c38_25.wp P Q a σ = ACode.wp P (.seq c38_19 c38_24) Q a σ := id rfl
@[go_sem] theorem c38_26_wp (P : Program) (Q : APost) (a : AFr) (σ : ASt) : c38_26.wp P Q a σ = ACode.wp P (.cond (.t 42) c38_18 c38_25) Q a σ := id rfl
@[go_sem] theorem c38_27_wp (P : Program) (Q : APost) (a : AFr) (σ : ASt) : c38_27.wp P Q a σ = ACode.wp P (.seq c38_16 c38_26) Q a σ := id rfl
@[go_sem] theorem c38_28_wp (P : Program) (Q : APost) (a : AFr) (σ : ASt) : c38_28.wp P Q a σ = ACode.wp P (.cond (.t 32) c38_15 c38_27) Q a σ := id rfl
@[go_sem] theorem c38_29_wp (P : Program) (Q : APost) (a : AFr) (σ : ASt) : c38_29.wp P Q a σ = ACode.wp P (.seq c38_13 c38_28) Q a σ := id rfl
@[go_sem] theorem c38_30_wp (P : Program) (Q : APost) (a : AFr) (σ : ASt) : c38_30.wp P Q a σ = ACode.wp P (.cond (.t 17) c38_12 c38_29) Q a σ := id rfl
@[go_sem] theorem c38_31_wp (P : Program) (Q : APost) (a : AFr) (σ : ASt) : c38_31.wp P Q a σ = ACode.wp P (.seq c38_11 c38_30) Q a σ := id rfl
@[go_sem] theorem c38_32_wp (P : Program) (Q : APost) (a : AFr) (σ : ASt) : c38_32.wp P Q a σ = ACode.wp P (.cond (.t 14) c38_4 c38_31) Q a σ := id rfl
@[go_sem] theorem c38_33_wp (P : Program) (Q : APost) (a : AFr) (σ : ASt) : c38_33.wp P Q a σ = ACode.wp P (.seq c38_2 c38_32) Q a σ := id rfl
@[go_sem] theorem c38_34_wp (P : Program) (Q : APost) (a : AFr) (σ : ASt) : c38_34.wp P Q a σ = ACode.wp P (.block 0 c38_33) Q a σ := id rfl
@[go_sem] theorem c38_35_wp (P : Program) (Q : APost) (a : AFr) (σ : ASt) : c38_35.wp P Q a σ = ACode.wp P (.ops [
    ⟨(some 2), none, .q (.mv (.v (.int .i64 0))), []⟩]) Q a σ := id rfl
@[go_sem] theorem c38_36_wp (P : Program) (Q : APost) (a : AFr) (σ : ASt) : c38_36.wp P Q a σ = ACode.wp P (.seq c38_35 .ret) Q a σ := id rfl
@[go_sem] theorem c38_37_wp (P : Program) (Q : APost) (a : AFr) (σ : ASt) : c38_37.wp P Q a σ = ACode.wp P (.seq c38_34 c38_36) Q a σ := id rfl
@[go_sem] theorem c38_38_wp (P : Program) (Q : APost) (a : AFr) (σ : ASt) : c38_38.wp P Q a σ = ACode.wp P (.seq c38_1 c38_37) Q a σ := id rfl
@[go_sem] theorem c38_39_wp (P : Program) (Q : APost) (a : AFr) (σ : ASt) : c38_39.wp P Q a σ = ACode.wp P (.seq c38_0 c38_38) Q a σ := id rfl
def c38 : AFn := ⟨52, [.t 2], c38_39⟩
set_option maxRecDepth 100000 in
theorem c38_ok : compF Tryd.prog Tryd.f38 = some c38 := by kernel_rfl
theorem a38 {args : List AV} {σ : ASt} {R : AV → ASt → Prop} (hl : args.length ≤ 52) (h : c38_39.wp Tryd.prog (RetQ [.t 2] R) (init args) σ) : ACalls Tryd.prog 38 args σ R := acalls_of Tryd.func38 c38_ok hl h

/-! 39: (*tabular/token.lexer).put -/
def c39_0 : ACode := .ops [
    ⟨(some 8), none, .q (.mv (.t 0)), []⟩,
    ⟨(some 9), none, .q (.mv (.t 0)), []⟩,
    ⟨(some 10), none, .q (.nc (.t 9)), []⟩,
    ⟨(some 11), none, .q (.fa 3 (.t 10)), []⟩,
    ⟨(some 12), none, .q (.ld none (.t 11)), []⟩,
    ⟨(some 13), none, .q (.mv (.t 1)), []⟩,
    ⟨(some 14), none, .q (.mv (.t 2)), []⟩,
    ⟨(some 15), none, .q (.mv (.t 0)), []⟩,
    ⟨(some 16), none, .q (.nc (.t 15)), []⟩,
    ⟨(some 17), none, .q (.fa 1 (.t 16)), []⟩,
    ⟨(some 18), none, .q (.ld none (.t 17)), []⟩,
    ⟨(some 19), none, .q (.mv (.t 0)), []⟩,
    ⟨(some 20), none, .q (.nc (.t 19)), []⟩,
    ⟨(some 21), none, .q (.fa 2 (.t 20)), []⟩,
    ⟨(some 22), none, .q (.ld none (.t 21)), []⟩,
    ⟨(some 23), none, .q (.build [(.int .i64 0), (.str []), (.int .i64 0), (.int .i64 0)] [(0, 1, (.t 13)), (1, 1, (.t 14)), (2, 1, (.t 18)), (3, 1, (.t 22))]), []⟩,
    ⟨(some 24), none, .q (.bsl 4 [(.t 23)]), []⟩,
    ⟨(some 25), none, .e (.app 54 4 40 [(.int .i64 0), (.str []), (.int .i64 0), (.int .i64 0)] (.t 12) (.t 24)), []⟩,
    ⟨(some 26), none, .q (.nc (.t 8)), []⟩,
    ⟨(some 27), none, .q (.fa 3 (.t 26)), []⟩,
    ⟨none, none, .e (.store 1 (.t 27) (.t 25)), []⟩]
def c39_1 : ACode := .ops [
    ⟨(some 28), none, .q (.mv (.t 0)), []⟩,
    ⟨(some 29), none, .q (.nc (.t 28)), []⟩,
    ⟨(some 30), none, .q (.fa 2 (.t 29)), []⟩,
    ⟨(some 31), none, .q (.ld none (.t 30)), []⟩,
    ⟨(some 32), none, .q (.mv (.t 0)), []⟩,
    ⟨(some 33), none, .q (.nc (.t 32)), []⟩,
    ⟨(some 34), none, .q (.fa 0 (.t 33)), []⟩,
    ⟨(some 35), none, .q (.ld none (.t 34)), []⟩,
    ⟨(some 36), none, .q (.mv (.t 0)), []⟩,
    ⟨(some 37), none, .q (.nc (.t 36)), []⟩,
    ⟨(some 38), none, .q (.fa 1 (.t 37)), []⟩,
    ⟨(some 39), none, .q (.ld none (.t 38)), []⟩,
    ⟨(some 40), none, .q (.mv (.t 0)), []⟩,
    ⟨(some 41), none, .q (.nc (.t 40)), []⟩,
    ⟨(some 42), none, .q (.fa 1 (.t 41)), []⟩,
    ⟨(some 43), none, .q (.ld none (.t 42)), []⟩,
    ⟨(some 44), none, .q (.mv (.t 3)), []⟩,
    ⟨(some 45), none, .q (.bin .add (.t 43) (.t 44)), []⟩,
    ⟨(some 46), none, .q (.sls (true, 0) (.t 35) (.t 39) (.t 45)), []⟩,
    ⟨(some 47), none, .e (.call 53 [(.t 46)]), [⟨none, .ld none (.t 30), 31⟩]⟩,
    ⟨(some 48), none, .q (.bin .add (.t 31) (.t 47)), []⟩,
    ⟨(some 49), none, .q (.nc (.t 28)), []⟩,
    ⟨(some 50), none, .q (.fa 2 (.t 49)), []⟩,
    ⟨none, none, .e (.store 1 (.t 50) (.t 48)), []⟩]
def c39_2 : ACode := .ops [
    ⟨(some 51), none, .q (.mv (.t 0)), []⟩,
    ⟨(some 52), none, .q (.nc (.t 51)), []⟩,
    ⟨(some 53), none, .q (.fa 1 (.t 52)), []⟩,
    ⟨(some 54), none, .q (.ld none (.t 53)), []⟩,
    ⟨(some 55), none, .q (.mv (.t 3)), []⟩,
    ⟨(some 56), none, .q (.bin .add (.t 54) (.t 55)), []⟩,
    ⟨(some 57), none, .q (.nc (.t 51)), []⟩,
    ⟨(some 58), none, .q (.fa 1 (.t 57)), []⟩,
    ⟨none, none, .e (.store 1 (.t 58) (.t 56)), []⟩]
def c39_3 : ACode := .seq c39_1 c39_2
def c39_4 : ACode := .seq c39_0 c39_3
@[go_sem] theorem c39_0_wp (P : Program) (Q : APost) (a : AFr) (σ : ASt) : c39_0.wp P Q a σ = ACode.wp P (.ops [
    ⟨(some 8), none, .q (.mv (.t 0)), []⟩,
    ⟨(some 9), none, .q (.mv (.t 0)), []⟩,
    ⟨(some 10), none, .q (.nc (.t 9)), []⟩,
    ⟨(some 11), none, .q (.fa 3 (.t 10)), []⟩,
    ⟨(some 12), none, .q (.ld none (.t 11)), []⟩,
    ⟨(some 13), none, .q (.mv (.t 1)), []⟩,
    ⟨(some 14), none, .q (.mv (.t 2)), []⟩,
    ⟨(some 15), none, .q (.mv (.t 0)), []⟩,
    ⟨(some 16), none, .q (.nc (.t 15)), []⟩,
    ⟨(some 17), none, .q (.fa 1 (.t 16)), []⟩,
    ⟨(some 18), none, .q (.ld none (.t 17)), []⟩,
    ⟨(some 19), none, .q (.mv (.t 0)), []⟩,
    ⟨(some 20), none, .q (.nc (.t 19)), []⟩,
    ⟨(some 21), none, .q (.fa 2 (.t 20)), []⟩,
    ⟨(some 22), none, .q (.ld none (.t 21)), []⟩,
    ⟨(some 23), none, .q (.build [(.int .i64 0), (.str []), (.int .i64 0), (.int .i64 0)] [(0, 1, (.t 13)), (1, 1, (.t 14)), (2, 1, (.t 18)), (3, 1, (.t 22))]), []⟩,
    ⟨(some 24), none, .q (.bsl 4 [(.t 23)]), []⟩,
    ⟨(some 25), none, .e (.app 54 4 40 [(.int .i64 0), (.str []), (.int .i64 0), (.int .i64 0)] (.t 12) (.t 24)), []⟩,
    ⟨(some 26), none, .q (.nc (.t 8)), []⟩,
    ⟨(some 27), none, .q (.fa 3 (.t 26)), []⟩,
    ⟨none, none, .e (.store 1 (.t 27) (.t 25)), []⟩]) Q a σ := id rfl
@[go_sem] theorem c39_1_wp (P : Program) (Q : APost) (a : AFr) (σ : ASt) : c39_1.wp P Q a σ = ACode.wp P (.ops [
    ⟨(some 28), none, .q (.mv (.t 0)), []⟩,
    ⟨(some 29), none, .q (.nc (.t 28)), []⟩,
    ⟨(some 30), none, .q (.fa 2 (.t 29)), []⟩,
    ⟨(some 31), none, .q (.ld none (.t 30)), []⟩,
    ⟨(some 32), none, .q (.mv (.t 0)), []⟩,
    ⟨(some 33), none, .q (.nc (.t 32)), []⟩,
    ⟨(some 34), none, .q (.fa 0 (.t 33)), []⟩,
    ⟨(some 35), none, .q (.ld none (.t 34)), []⟩,
    ⟨(some 36), none, .q (.mv (.t 0)), []⟩,
    ⟨(some 37), none, .q (.nc (.t 36)), []⟩,
    ⟨(some 38), none, .q (.fa 1 (.t 37)), []⟩,
    ⟨(some 39), none, .q (.ld none (.t 38)), []⟩,
    ⟨(some 40), none, .q (.mv (.t 0)), []⟩,
    ⟨(some 41), none, .q (.nc (.t 40)), []⟩,
    ⟨(some 42), none, .q (.fa 1 (.t 41)), []⟩,
    ⟨(some 43), none, .q (.ld none (.t 42)), []⟩,
    ⟨(some 44), none, .q (.mv (.t 3)), []⟩,
    ⟨(some 45), none, .q (.bin .add (.t 43) (.t 44)), []⟩,
    ⟨(some 46), none, .q (.sls (true, 0) (.t 35) (.t 39) (.t 45)), []⟩,
    ⟨(some 47), none, .e (.call 53 [(.t 46)]), [⟨none, .ld none (.t 30), 31⟩]⟩,
    ⟨(some 48), none, .q (.bin .add (.t 31) (.t 47)), []⟩,
    ⟨(some 49), none, .q (.nc (.t 28)), []⟩,
    ⟨(some 50), none, .q (.fa 2 (.t 49)), []⟩,
    ⟨none, none, .e (.store 1 (.t 50) (.t 48)), []⟩]) Q a σ := id rfl
@[go_sem] theorem c39_2_wp (P : Program) (Q : APost) (a : AFr) (σ : ASt) : c39_2.wp P Q a σ = ACode.wp P (.ops [
    ⟨(some 51), none, .q (.mv (.t 0)), []⟩,
    ⟨(some 52), none, .q (.nc (.t 51)), []⟩,
    ⟨(some 53), none, .q (.fa 1 (.t 52)), []⟩,
    ⟨(some 54), none, .q (.ld none (.t 53)), []⟩,
    ⟨(some 55), none, .q (.mv (.t 3)), []⟩,
    ⟨(some 56), none, .q (.bin .add (.t 54) (.t 55)), []⟩,
    ⟨(some 57), none, .q (.nc (.t 51)), []⟩,
    ⟨(some 58), none, .q (.fa 1 (.t 57)), []⟩,
    ⟨none, none, .e (.store 1 (.t 58) (.t 56)), []⟩]) Q a σ := id rfl
@[go_sem] theorem c39_3_wp (P : Program) (Q : APost) (a : AFr) (σ : ASt) : c39_3.wp P Q a σ = ACode.wp P (.seq c39_1 c39_2) Q a σ := id rfl
@[go_sem] theorem c39_4_wp (P : Program) (Q : APost) (a : AFr) (σ : ASt) : c39_4.wp P Q a σ = ACode.wp P (.seq c39_0 c39_3) Q a σ := id rfl
def c39 : AFn := ⟨59, [], c39_4⟩
set_option maxRecDepth 100000 in
theorem c39_ok : compF Tryd.prog Tryd.f39 = some c39 := by kernel_rfl
theorem a39 {args : List AV} {σ : ASt} {R : AV → ASt → Prop} (hl : args.length ≤ 59) (h : c39_4.wp Tryd.prog (RetQ [] R) (init args) σ) : ACalls Tryd.prog 39 args σ R := acalls_of Tryd.func39 c39_ok hl h

/-! 46: (*tabular/token.lexer).sign -/
def c46_0 : ACode := .ops [
    ⟨(some 2), none, .q (.mv (.v (.int .i32 0))), []⟩,
    ⟨(some 3), none, .q (.mv (.v (.int .i64 0))), []⟩]
def c46_1 : ACode := .ops [
    ⟨(some 6), none, .q (.mv (.t 0)), []⟩,
    ⟨(some 7), none, .q (.nc (.t 6)), []⟩,
    ⟨(some 8), none, .q (.fa 1 (.t 7)), []⟩,
    ⟨(some 9), none, .q (.ld none (.t 8)), []⟩,
    ⟨(some 10), none, .q (.mv (.t 0)), []⟩,
    ⟨(some 11), none, .q (.nc (.t 10)), []⟩,
    ⟨(some 12), none, .q (.fa 0 (.t 11)), []⟩,
    ⟨(some 13), none, .q (.ld none (.t 12)), []⟩,
    ⟨(some 14), none, .q (.lenS (.t 13)), []⟩,
    ⟨(some 15), none, .q (.bin .geq (.t 9) (.t 14)), []⟩]
def c46_2 : ACode := .ops [
    ⟨(some 2), none, .q (.mv (.v (.int .i32 0))), []⟩,
    ⟨(some 3), none, .q (.mv (.v (.int .i64 0))), []⟩]
def c46_3 : ACode := .seq c46_2 .ret
def c46_4 : ACode := .cond (.t 15) c46_3 .skip
def c46_5 : ACode := .seq c46_1 c46_4
def c46_6 : ACode := .ops [
    ⟨(some 17), none, .q (.mv (.t 0)), []⟩,
    ⟨(some 18), none, .q (.nc (.t 17)), []⟩,
    ⟨(some 19), none, .q (.fa 0 (.t 18)), []⟩,
    ⟨(some 20), none, .q (.ld none (.t 19)), []⟩,
    ⟨(some 21), none, .q (.mv (.t 0)), []⟩,
    ⟨(some 22), none, .q (.nc (.t 21)), []⟩,
    ⟨(some 23), none, .q (.fa 1 (.t 22)), []⟩,
    ⟨(some 24), none, .q (.ld none (.t 23)), []⟩,
    ⟨(some 25), none, .q (.slfrom (true, 0) (.t 20) (.t 24)), []⟩,
    ⟨(some 26), none, .e (.call 40 [(.t 25)]), []⟩,
    ⟨(some 16), none, .q (.mv (.t 26)), []⟩,
    ⟨(some 27), none, .q (.ext 0 (.t 16)), []⟩,
    ⟨(some 28), none, .q (.ext 1 (.t 16)), []⟩,
    ⟨(some 4), none, .q (.mv (.t 27)), []⟩,
    ⟨(some 5), none, .q (.mv (.t 28)), []⟩]
def c46_7 : ACode := .ops [
    ⟨(some 29), none, .q (.mv (.t 4)), []⟩,
    ⟨(some 30), none, .q (.bin .eql (.t 29) (.v (.int .i32 65533))), []⟩,
    ⟨(some 31), none, .q (.mv (.t 30)), []⟩,
    ⟨(some 32), (some (31, true)), .q (.mv (.t 5)), []⟩,
    ⟨(some 33), (some (31, true)), .q (.bin .eql (.t 32) (.v (.int .i64 1))), []⟩,
    ⟨(some 34), none, .q (.pick (.t 31) (.t 33) (.v (.bool false))), []⟩]
def c46_8 : ACode := .ops [
    ⟨(some 2), none, .q (.mv (.v (.int .i32 0))), []⟩,
    ⟨(some 3), none, .q (.mv (.v (.int .i64 (-1)))), []⟩]
def c46_9 : ACode := .seq c46_8 .ret
def c46_10 : ACode := .cond (.t 34) c46_9 .skip
def c46_11 : ACode := .seq c46_7 c46_10
def c46_12 : ACode := .ops [
    ⟨(some 35), none, .q (.mv (.t 4)), []⟩,
    ⟨(some 36), none, .q (.mv (.t 5)), []⟩,
    ⟨(some 2), none, .q (.mv (.t 35)), []⟩,
    ⟨(some 3), none, .q (.mv (.t 36)), []⟩]
def c46_13 : ACode := .seq c46_12 .ret
def c46_14 : ACode := .seq c46_11 c46_13
def c46_15 : ACode := .seq c46_6 c46_14
def c46_16 : ACode := .seq c46_5 c46_15
def c46_17 : ACode := .seq c46_0 c46_16
@[go_sem] theorem c46_0_wp (P : Program) (Q : APost) (a : AFr) (σ : ASt) : c46_0.wp P Q a σ = ACode.wp P (.ops [
    ⟨(some 2), none, .q (.mv (.v (.int .i32 0))), []⟩,
    ⟨(some 3), none, .q (.mv (.v (.int .i64 0))), []⟩]) Q a σ := id rfl
@[go_sem] theorem c46_1_wp (P : Program) (Q : APost) (a : AFr) (σ : ASt) : c46_1.wp P Q a σ = ACode.wp P (.ops [
    ⟨(some 6), none, .q (.mv (.t 0)), []⟩,
    ⟨(some 7), none, .q (.nc (.t 6)), []⟩,
    ⟨(some 8), none, .q (.fa 1 (.t 7)), []⟩,
    ⟨(some 9), none, .q (.ld none (.t 8)), []⟩,
    ⟨(some 10), none, .q (.mv (.t 0)), []⟩,
    ⟨(some 11), none, .q (.nc (.t 10)), []⟩,
    ⟨(some 12), none, .q (.fa 0 (.t 11)), []⟩,
    ⟨(some 13), none, .q (.ld none (.t 12)), []⟩,
    ⟨(some 14), none, .q (.lenS (.t 13)), []⟩,
    ⟨(some 15), none, .q (.bin .geq (.t 9) (.t 14)), []⟩]) Q a σ := id rfl
@[go_sem] theorem c46_2_wp (P : Program) (Q : APost) (a : AFr) (σ : ASt) : c46_2.wp P Q a σ = ACode.wp P (.ops [
    ⟨(some 2), none, .q (.mv (.v (.int .i32 0))), []⟩,
    ⟨(some 3), none, .q (.mv (.v (.int .i64 0))), []⟩]) Q a σ := id rfl
@[go_sem] theorem c46_3_wp (P : Program) (Q : APost) (a : AFr) (σ : ASt) : c46_3.wp P Q a σ = ACode.wp P (.seq c46_2 .ret) Q a σ := id rfl
@[go_sem] theorem c46_4_wp (P : Program) (Q : APost) (a : AFr) (σ : ASt) : c46_4.wp P Q a σ = ACode.wp P (.cond (.t 15) c46_3 .skip) Q a σ := id rfl
@[go_sem] theorem c46_5_wp (P : Program) (Q : APost) (a : AFr) (σ : ASt) : c46_5.wp P Q a σ = ACode.wp P (.seq c46_1 c46_4) Q a σ := id rfl
@[go_sem] theorem c46_6_wp (P : Program) (Q : APost) (a : AFr) (σ : ASt) : c46_6.wp P Q a σ = ACode.wp P (.ops [
    ⟨(some 17), none, .q (.mv (.t 0)), []⟩,
    ⟨(some 18), none, .q (.nc (.t 17)), []⟩,
    ⟨(some 19), none, .q (.fa 0 (.t 18)), []⟩,
    ⟨(some 20), none, .q (.ld none (.t 19)), []⟩,
    ⟨(some 21), none, .q (.mv (.t 0)), []⟩,
    ⟨(some 22), none, .q (.nc (.t 21)), []⟩,
    ⟨(some 23), none, .q (.fa 1 (.t 22)), []⟩,
    ⟨(some 24), none, .q (.ld none (.t 23)), []⟩,
    ⟨(some 25), none, .q (.slfrom (true, 0) (.t 20) (.t 24)), []⟩,
    ⟨(some 26), none, .e (.call 40 [(.t 25)]), []⟩,
    ⟨(some 16), none, .q (.mv (.t 26)), []⟩,
    ⟨(some 27), none, .q (.ext 0 (.t 16)), []⟩,
    ⟨(some 28), none, .q (.ext 1 (.t 16)), []⟩,
    ⟨(some 4), none, .q (.mv (.t 27)), []⟩,
    ⟨(some 5), none, .q (.mv (.t 28)), []⟩]) Q a σ := id rfl
@[go_sem] theorem c46_7_wp (P : Program) (Q : APost) (a : AFr) (σ : ASt) : c46_7.wp P Q a σ = ACode.wp P (.ops [
    ⟨(some 29), none, .q (.mv (.t 4)), []⟩,
    ⟨(some 30), none, .q (.bin .eql (.t 29) (.v (.int .i32 65533))), []⟩,
    ⟨(some 31), none, .q (.mv (.t 30)), []⟩,
    ⟨(some 32), (some (31, true)), .q (.mv (.t 5)), []⟩,
    ⟨(some 33), (some (31, true)), .q (.bin .eql (.t 32) (.v (.int .i64 1))), []⟩,
    ⟨(some 34), none, .q (.pick (.t 31) (.t 33) (.v (.bool false))), []⟩]) Q a σ := id rfl
@[go_sem] theorem c46_8_wp (P : Program) (Q : APost) (a : AFr) (σ : ASt) : c46_8.wp P Q a σ = ACode.wp P (.ops [
    ⟨(some 2), none, .q (.mv (.v (.int .i32 0))), []⟩,
    ⟨(some 3), none, .q (.mv (.v (.int .i64 (-1)))), []⟩]) Q a σ := id rfl
@[go_sem] theorem c46_9_wp (P : Program) (Q : APost) (a : AFr) (σ : ASt) : c46_9.wp P Q a σ = ACode.wp P (.seq c46_8 .ret) Q a σ := id rfl
@[go_sem] theorem c46_10_wp (P : Program) (Q : APost) (a : AFr) (σ : ASt) : c46_10.wp P Q a σ = ACode.wp P (.cond (.t 34) c46_9 .skip) Q a σ := id rfl
@[go_sem] theorem c46_11_wp (P : Program) (Q : APost) (a : AFr) (σ : ASt) : c46_11.wp P Q a σ = ACode.wp P (.seq c46_7 c46_10) Q a σ := id rfl
@[go_sem] theorem c46_12_wp (P : Program) (Q : APost) (a : AFr) (σ : ASt) : c46_12.wp P Q a σ = ACode.wp P (.ops [
    ⟨(some 35), none, .q (.mv (.t 4)), []⟩,
    ⟨(some 36), none, .q (.mv (.t 5)), []⟩,
    ⟨(some 2), none, .q (.mv (.t 35)), []⟩,
    ⟨(some 3), none, .q (.mv (.t 36)), []⟩]) Q a σ := id rfl
@[go_sem] theorem c46_13_wp (P : Program) (Q : APost) (a : AFr) (σ : ASt) : c46_13.wp P Q a σ = ACode.wp P (.seq c46_12 .ret) Q a σ := id rfl
@[go_sem] theorem c46_14_wp (P : Program) (Q : APost) (a : AFr) (σ : ASt) : c46_14.wp P Q a σ = ACode.wp P (.seq c46_11 c46_13) Q a σ := id rfl
@[go_sem] theorem c46_15_wp (P : Program) (Q : APost) (a : AFr) (σ : ASt) : c46_15.wp P Q a σ = ACode.wp P (.seq c46_6 c46_14) Q a σ := id rfl
@[go_sem] theorem c46_16_wp (P : Program) (Q : APost) (a : AFr) (σ : ASt) : c46_16.wp P Q a σ = ACode.wp P (.seq c46_5 c46_15) Q a σ := id rfl
@[go_sem] theorem c46_17_wp (P : Program) (Q : APost) (a : AFr) (σ : ASt) : c46_17.wp P Q a σ = ACode.wp P (.seq c46_0 c46_16) Q a σ := id rfl
def c46 : AFn := ⟨37, [.t 2, .t 3], c46_17⟩
set_option maxRecDepth 100000 in
theorem c46_ok : compF Tryd.prog Tryd.f46 = some c46 := by kernel_rfl
theorem a46 {args : List AV} {σ : ASt} {R : AV → ASt → Prop} (hl : args.length ≤ 37) (h : c46_17.wp Tryd.prog (RetQ [.t 2, .t 3] R) (init args) σ) : ACalls Tryd.prog 46 args σ R := acalls_of Tryd.func46 c46_ok hl h

/-! 47: (*tabular/token.lexer).pass -/
def c47_0 : ACode := .ops [
    ⟨(some 4), none, .q (.mv (.t 0)), []⟩,
    ⟨(some 5), none, .q (.nc (.t 4)), []⟩,
    ⟨(some 6), none, .q (.fa 2 (.t 5)), []⟩,
    ⟨(some 7), none, .q (.ld none (.t 6)), []⟩,
    ⟨(some 8), none, .q (.mv (.t 0)), []⟩,
    ⟨(some 9), none, .q (.nc (.t 8)), []⟩,
    ⟨(some 10), none, .q (.fa 0 (.t 9)), []⟩,
    ⟨(some 11), none, .q (.ld none (.t 10)), []⟩,
    ⟨(some 12), none, .q (.mv (.t 0)), []⟩,
    ⟨(some 13), none, .q (.nc (.t 12)), []⟩,
    ⟨(some 14), none, .q (.fa 1 (.t 13)), []⟩,
    ⟨(some 15), none, .q (.ld none (.t 14)), []⟩,
    ⟨(some 16), none, .q (.mv (.t 1)), []⟩,
    ⟨(some 17), none, .q (.sls (true, 0) (.t 11) (.t 15) (.t 16)), []⟩,
    ⟨(some 18), none, .e (.call 53 [(.t 17)]), [⟨none, .ld none (.t 6), 7⟩]⟩,
    ⟨(some 19), none, .q (.bin .add (.t 7) (.t 18)), []⟩,
    ⟨(some 20), none, .q (.nc (.t 4)), []⟩,
    ⟨(some 21), none, .q (.fa 2 (.t 20)), []⟩,
    ⟨none, none, .e (.store 1 (.t 21) (.t 19)), []⟩]
def c47_1 : ACode := .ops [
    ⟨(some 22), none, .q (.mv (.t 0)), []⟩,
    ⟨(some 23), none, .q (.mv (.t 1)), []⟩,
    ⟨(some 24), none, .q (.nc (.t 22)), []⟩,
    ⟨(some 25), none, .q (.fa 1 (.t 24)), []⟩,
    ⟨none, none, .e (.store 1 (.t 25) (.t 23)), []⟩]
def c47_2 : ACode := .seq c47_0 c47_1
@[go_sem] theorem c47_0_wp (P : Program) (Q : APost) (a : AFr) (σ : ASt) : c47_0.wp P Q a σ = ACode.wp P (.ops [
    ⟨(some 4), none, .q (.mv (.t 0)), []⟩,
    ⟨(some 5), none, .q (.nc (.t 4)), []⟩,
    ⟨(some 6), none, .q (.fa 2 (.t 5)), []⟩,
    ⟨(some 7), none, .q (.ld none (.t 6)), []⟩,
    ⟨(some 8), none, .q (.mv (.t 0)), []⟩,
    ⟨(some 9), none, .q (.nc (.t 8)), []⟩,
    ⟨(some 10), none, .q (.fa 0 (.t 9)), []⟩,
    ⟨(some 11), none, .q (.ld none (.t 10)), []⟩,
    ⟨(some 12), none, .q (.mv (.t 0)), []⟩,
    ⟨(some 13), none, .q (.nc (.t 12)), []⟩,
    ⟨(some 14), none, .q (.fa 1 (.t 13)), []⟩,
    ⟨(some 15), none, .q (.ld none (.t 14)), []⟩,
    ⟨(some 16), none, .q (.mv (.t 1)), []⟩,
    ⟨(some 17), none, .q (.sls (true, 0) (.t 11) (.t 15) (.t 16)), []⟩,
    ⟨(some 18), none, .e (.call 53 [(.t 17)]), [⟨none, .ld none (.t 6), 7⟩]⟩,
    ⟨(some 19), none, .q (.bin .add (.t 7) (.t 18)), []⟩,
    ⟨(some 20), none, .q (.nc (.t 4)), []⟩,
    ⟨(some 21), none, .q (.fa 2 (.t 20)), []⟩,
    ⟨none, none, .e (.store 1 (.t 21) (.t 19)), []⟩]) Q a σ := id rfl
@[go_sem] theorem c47_1_wp (P : Program) (Q : APost) (a : AFr) (σ : ASt) : c47_1.wp P Q a σ = ACode.wp P (.ops [
    ⟨(some 22), none, .q (.mv (.t 0)), []⟩,
    ⟨(some 23), none, .q (.mv (.t 1)), []⟩,
    ⟨(some 24), none, .q (.nc (.t 22)), []⟩,
    ⟨(some 25), none, .q (.fa 1 (.t 24)), []⟩,
    ⟨none, none, .e (.store 1 (.t 25) (.t 23)), []⟩]) Q a σ := id rfl
@[go_sem] theorem c47_2_wp (P : Program) (Q : APost) (a : AFr) (σ : ASt) : c47_2.wp P Q a σ = ACode.wp P (.seq c47_0 c47_1) Q a σ := id rfl
def c47 : AFn := ⟨26, [], c47_2⟩
set_option maxRecDepth 100000 in
theorem c47_ok : compF Tryd.prog Tryd.f47 = some c47 := by kernel_rfl
theorem a47 {args : List AV} {σ : ASt} {R : AV → ASt → Prop} (hl : args.length ≤ 26) (h : c47_2.wp Tryd.prog (RetQ [] R) (init args) σ) : ACalls Tryd.prog 47 args σ R := acalls_of Tryd.func47 c47_ok hl h

/-! 48: tabular/token.word -/
def c48_0 : ACode := .ops [
    ⟨(some 2), none, .q (.mv (.v (.bool false))), []⟩]
def c48_1 : ACode := .ops [
    ⟨(some 3), none, .q (.mv (.t 0)), []⟩,
    ⟨(some 4), none, .q (.bin .geq (.t 3) (.v (.int .u8 48))), []⟩,
    ⟨(some 5), none, .q (.mv (.t 4)), []⟩,
    ⟨(some 6), (some (5, true)), .q (.mv (.t 0)), []⟩,
    ⟨(some 7), (some (5, true)), .q (.bin .leq (.t 6) (.v (.int .u8 57))), []⟩,
    ⟨(some 8), none, .q (.pick (.t 5) (.t 7) (.v (.bool false))), []⟩,
    ⟨(some 9), none, .q (.mv (.t 8)), []⟩,
    ⟨(some 10), (some (9, false)), .q (.mv (.t 0)), []⟩,
    ⟨(some 11), (some (9, false)), .q (.bin .geq (.t 10) (.v (.int .u8 97))), []⟩,
    ⟨(some 12), (some (9, false)), .q (.mv (.t 11)), []⟩,
    ⟨(some 13), (some (12, true)), .q (.mv (.t 0)), []⟩,
    ⟨(some 14), (some (12, true)), .q (.bin .leq (.t 13) (.v (.int .u8 122))), []⟩,
    ⟨(some 15), (some (9, false)), .q (.pick (.t 12) (.t 14) (.v (.bool false))), []⟩,
    ⟨(some 16), none, .q (.pick (.t 9) (.v (.bool true)) (.t 15)), []⟩,
    ⟨(some 17), none, .q (.mv (.t 16)), []⟩,
    ⟨(some 18), (some (17, false)), .q (.mv (.t 0)), []⟩,
    ⟨(some 19), (some (17, false)), .q (.bin .geq (.t 18) (.v (.int .u8 65))), []⟩,
    ⟨(some 20), (some (17, false)), .q (.mv (.t 19)), []⟩,
    ⟨(some 21), (some (20, true)), .q (.mv (.t 0)), []⟩,
    ⟨(some 22), (some (20, true)), .q (.bin .leq (.t 21) (.v (.int .u8 90))), []⟩,
    ⟨(some 23), (some (17, false)), .q (.pick (.t 20) (.t 22) (.v (.bool false))), []⟩,
    ⟨(some 24), none, .q (.pick (.t 17) (.v (.bool true)) (.t 23)), []⟩,
    ⟨(some 25), none, .q (.mv (.t 24)), []⟩,
    ⟨(some 26), (some (25, false)), .q (.mv (.t 0)), []⟩,
    ⟨(some 27), (some (25, false)), .q (.bin .eql (.t 26) (.v (.int .u8 95))), []⟩,
    ⟨(some 28), none, .q (.pick (.t 25) (.v (.bool true)) (.t 27)), []⟩,
    ⟨(some 29), none, .q (.mv (.t 28)), []⟩,
    ⟨(some 30), (some (29, false)), .q (.mv (.t 0)), []⟩,
    ⟨(some 31), (some (29, false)), .q (.bin .eql (.t 30) (.v (.int .u8 36))), []⟩,
    ⟨(some 32), none, .q (.pick (.t 29) (.v (.bool true)) (.t 31)), []⟩,
    ⟨(some 33), none, .q (.mv (.t 32)), []⟩,
    ⟨(some 34), (some (33, false)), .q (.mv (.t 0)), []⟩,
    ⟨(some 35), (some (33, false)), .q (.bin .eql (.t 34) (.v (.int .u8 46))), []⟩,
    ⟨(some 36), none, .q (.pick (.t 33) (.v (.bool true)) (.t 35)), []⟩,
    ⟨(some 2), none, .q (.mv (.t 36)), []⟩]
def c48_2 : ACode := .seq c48_1 .ret
def c48_3 : ACode := .seq c48_0 c48_2
@[go_sem] theorem c48_0_wp (P : Program) (Q : APost) (a : AFr) (σ : ASt) : c48_0.wp P Q a σ = ACode.wp P (.ops [
    ⟨(some 2), none, .q (.mv (.v (.bool false))), []⟩]) Q a σ := id rfl
@[go_sem] theorem c48_1_wp (P : Program) (Q : APost) (a : AFr) (σ : ASt) : c48_1.wp P Q a σ = ACode.wp P (.ops [
    ⟨(some 3), none, .q (.mv (.t 0)), []⟩,
    ⟨(some 4), none, .q (.bin .geq (.t 3) (.v (.int .u8 48))), []⟩,
    ⟨(some 5), none, .q (.mv (.t 4)), []⟩,
    ⟨(some 6), (some (5, true)), .q (.mv (.t 0)), []⟩,
    ⟨(some 7), (some (5, true)), .q (.bin .leq (.t 6) (.v (.int .u8 57))), []⟩,
    ⟨(some 8), none, .q (.pick (.t 5) (.t 7) (.v (.bool false))), []⟩,
    ⟨(some 9), none, .q (.mv (.t 8)), []⟩,
    ⟨(some 10), (some (9, false)), .q (.mv (.t 0)), []⟩,
    ⟨(some 11), (some (9, false)), .q (.bin .geq (.t 10) (.v (.int .u8 97))), []⟩,
    ⟨(some 12), (some (9, false)), .q (.mv (.t 11)), []⟩,
    ⟨(some 13), (some (12, true)), .q (.mv (.t 0)), []⟩,
    ⟨(some 14), (some (12, true)), .q (.bin .leq (.t 13) (.v (.int .u8 122))), []⟩,
    ⟨(some 15), (some (9, false)), .q (.pick (.t 12) (.t 14) (.v (.bool false))), []⟩,
    ⟨(some 16), none, .q (.pick (.t 9) (.v (.bool true)) (.t 15)), []⟩,
    ⟨(some 17), none, .q (.mv (.t 16)), []⟩,
    ⟨(some 18), (some (17, false)), .q (.mv (.t 0)), []⟩,
    ⟨(some 19), (some (17, false)), .q (.bin .geq (.t 18) (.v (.int .u8 65))), []⟩,
    ⟨(some 20), (some (17, false)), .q (.mv (.t 19)), []⟩,
    ⟨(some 21), (some (20, true)), .q (.mv (.t 0)), []⟩,
    ⟨(some 22), (some (20, true)), .q (.bin .leq (.t 21) (.v (.int .u8 90))), []⟩,
    ⟨(some 23), (some (17, false)), .q (.pick (.t 20) (.t 22) (.v (.bool false))), []⟩,
    ⟨(some 24), none, .q (.pick (.t 17) (.v (.bool true)) (.t 23)), []⟩,
    ⟨(some 25), none, .q (.mv (.t 24)), []⟩,
    ⟨(some 26), (some (25, false)), .q (.mv (.t 0)), []⟩,
    ⟨(some 27), (some (25, false)), .q (.bin .eql (.t 26) (.v (.int .u8 95))), []⟩,
    ⟨(some 28), none, .q (.pick (.t 25) (.v (.bool true)) (.t 27)), []⟩,
    ⟨(some 29), none, .q (.mv (.t 28)), []⟩,
    ⟨(some 30), (some (29, false)), .q (.mv (.t 0)), []⟩,
    ⟨(some 31), (some (29, false)), .q (.bin .eql (.t 30) (.v (.int .u8 36))), []⟩,
    ⟨(some 32), none, .q (.pick (.t 29) (.v (.bool true)) (.t 31)), []⟩,
    ⟨(some 33), none, .q (.mv (.t 32)), []⟩,
    ⟨(some 34), (some (33, false)), .q (.mv (.t 0)), []⟩,
    ⟨(some 35), (some (33, false)), .q (.bin .eql (.t 34) (.v (.int .u8 46))), []⟩,
    ⟨(some 36), none, .q (.pick (.t 33) (.v (.bool true)) (.t 35)), []⟩,
    ⟨(some 2), none, .q (.mv (.t 36)), []⟩]) Q a σ := id rfl
@[go_sem] theorem c48_2_wp (P : Program) (Q : APost) (a : AFr) (σ : ASt) : c48_2.wp P Q a σ = ACode.wp P (.seq c48_1 .ret) Q a σ := id rfl
@[go_sem] theorem c48_3_wp (P : Program) (Q : APost) (a : AFr) (σ : ASt) : c48_3.wp P Q a σ = ACode.wp P (.seq c48_0 c48_2) Q a σ := id rfl
def c48 : AFn := ⟨37, [.t 2], c48_3⟩
set_option maxRecDepth 100000 in
theorem c48_ok : compF Tryd.prog Tryd.f48 = some c48 := by kernel_rfl
theorem a48 {args : List AV} {σ : ASt} {R : AV → ASt → Prop} (hl : args.length ≤ 37) (h : c48_3.wp Tryd.prog (RetQ [.t 2] R) (init args) σ) : ACalls Tryd.prog 48 args σ R := acalls_of Tryd.func48 c48_ok hl h

/-! 49: (*tabular/token.lexer).words -/
def c49_0 : ACode := .ops [
    ⟨(some 2), none, .q (.mv (.v (.int .i64 0))), []⟩]
def c49_1 : ACode := .ops [
    ⟨(some 3), none, .q (.mv (.v (.int .i64 0))), []⟩]
def c49_2 : ACode := .ops [
    ⟨(some 5), none, .q (.mv (.t 0)), []⟩,
    ⟨(some 6), none, .q (.nc (.t 5)), []⟩,
    ⟨(some 7), none, .q (.fa 1 (.t 6)), []⟩,
    ⟨(some 8), none, .q (.ld none (.t 7)), []⟩,
    ⟨(some 9), none, .q (.mv (.t 3)), []⟩,
    ⟨(some 10), none, .q (.bin .add (.t 8) (.t 9)), []⟩,
    ⟨(some 11), none, .q (.mv (.t 0)), []⟩,
    ⟨(some 12), none, .q (.nc (.t 11)), []⟩,
    ⟨(some 13), none, .q (.fa 0 (.t 12)), []⟩,
    ⟨(some 14), none, .q (.ld none (.t 13)), []⟩,
    ⟨(some 15), none, .q (.lenS (.t 14)), []⟩,
    ⟨(some 16), none, .q (.bin .lss (.t 10) (.t 15)), []⟩,
    ⟨(some 17), none, .q (.mv (.t 16)), []⟩,
    ⟨(some 18), (some (17, true)), .q (.mv (.t 0)), []⟩,
    ⟨(some 19), (some (17, true)), .q (.nc (.t 18)), []⟩,
    ⟨(some 20), (some (17, true)), .q (.fa 0 (.t 19)), []⟩,
    ⟨(some 21), (some (17, true)), .q (.ld none (.t 20)), []⟩,
    ⟨(some 22), (some (17, true)), .q (.mv (.t 0)), []⟩,
    ⟨(some 23), (some (17, true)), .q (.nc (.t 22)), []⟩,
    ⟨(some 24), (some (17, true)), .q (.fa 1 (.t 23)), []⟩,
    ⟨(some 25), (some (17, true)), .q (.ld none (.t 24)), []⟩,
    ⟨(some 26), (some (17, true)), .q (.mv (.t 3)), []⟩,
    ⟨(some 27), (some (17, true)), .q (.bin .add (.t 25) (.t 26)), []⟩,
    ⟨(some 28), (some (17, true)), .q (.idx (.t 21) (.t 27)), []⟩,
    ⟨(some 29), (some (17, true)), .e (.call 48 [(.t 28)]), []⟩,
    ⟨(some 30), none, .q (.pick (.t 17) (.t 29) (.v (.bool false))), []⟩]
def c49_3 : ACode := .cond (.t 30) .skip (.exit 0)
def c49_4 : ACode := .seq c49_2 c49_3
def c49_5 : ACode := .ops [
    ⟨(some 31), none, .q (.mv (.t 3)), []⟩,
    ⟨(some 32), none, .q (.bin .add (.t 31) (.v (.int .i64 1))), []⟩,
    ⟨(some 3), none, .q (.mv (.t 32)), []⟩]
def c49_6 : ACode := .block 1 c49_5
def c49_7 : ACode := .seq c49_4 c49_6
def c49_8 : ACode := .loop c49_7
def c49_9 : ACode := .block 0 c49_8
def c49_10 : ACode := .ops [
    ⟨(some 33), none, .q (.mv (.t 0)), []⟩,
    ⟨(some 34), none, .q (.nc (.t 33)), []⟩,
    ⟨(some 35), none, .q (.fa 0 (.t 34)), []⟩,
    ⟨(some 36), none, .q (.ld none (.t 35)), []⟩,
    ⟨(some 37), none, .q (.mv (.t 0)), []⟩,
    ⟨(some 38), none, .q (.nc (.t 37)), []⟩,
    ⟨(some 39), none, .q (.fa 1 (.t 38)), []⟩,
    ⟨(some 40), none, .q (.ld none (.t 39)), []⟩,
    ⟨(some 41), none, .q (.mv (.t 0)), []⟩,
    ⟨(some 42), none, .q (.nc (.t 41)), []⟩,
    ⟨(some 43), none, .q (.fa 1 (.t 42)), []⟩,
    ⟨(some 44), none, .q (.ld none (.t 43)), []⟩,
    ⟨(some 45), none, .q (.mv (.t 3)), []⟩,
    ⟨(some 46), none, .q (.bin .add (.t 44) (.t 45)), []⟩,
    ⟨(some 47), none, .q (.sls (true, 0) (.t 36) (.t 40) (.t 46)), []⟩,
    ⟨(some 4), none, .q (.mv (.t 47)), []⟩]
def c49_11 : ACode := .ops [
    ⟨(some 49), none, .q (.mv (.t 4)), []⟩,
    ⟨(some 50), none, .e (.call 57 [(.t 49)]), []⟩,
    ⟨(some 48), none, .q (.mv (.t 50)), []⟩]
def c49_12 : ACode := .ops [
    ⟨(some 51), none, .q (.mv (.t 0)), []⟩,
    ⟨(some 52), none, .q (.mv (.t 4)), []⟩,
    ⟨(some 53), none, .q (.mv (.t 3)), []⟩,
    ⟨(some 54), none, .e (.call 39 [(.t 51), (.v (.int .i64 1)), (.t 52), (.t 53)]), []⟩]
def c49_13 : ACode := .ops [
    ⟨(some 56), none, .q (.mv (.t 4)), []⟩,
    ⟨(some 57), none, .e (.call 58 [(.t 56)]), []⟩,
    ⟨(some 55), none, .q (.mv (.t 57)), []⟩]
def c49_14 : ACode := .ops [
    ⟨(some 58), none, .q (.mv (.t 0)), []⟩,
    ⟨(some 59), none, .q (.mv (.t 4)), []⟩,
    ⟨(some 60), none, .e (.call 59 [(.t 59)]), []⟩,
    ⟨(some 61), none, .q (.mv (.t 3)), []⟩,
    ⟨(some 62), none, .e (.call 39 [(.t 58), (.v (.int .i64 4)), (.t 60), (.t 61)]), []⟩]
def c49_15 : ACode := .ops [
    ⟨(some 64), none, .q (.mv (.t 4)), []⟩,
    ⟨(some 65), none, .e (.call 60 [(.t 64)]), []⟩,
    ⟨(some 63), none, .q (.mv (.t 65)), []⟩]
def c49_16 : ACode := .ops [
    ⟨(some 66), none, .q (.mv (.t 0)), []⟩,
    ⟨(some 67), none, .q (.mv (.t 4)), []⟩,
    ⟨(some 68), none, .e (.call 59 [(.t 67)]), []⟩,
    ⟨(some 69), none, .q (.mv (.t 3)), []⟩,
    ⟨(some 70), none, .e (.call 39 [(.t 66), (.v (.int .i64 3)), (.t 68), (.t 69)]), []⟩]
def c49_17 : ACode := .ops [
    ⟨(some 2), none, .q (.mv (.v (.int .i64 10))), []⟩]
def c49_18 : ACode := .seq c49_17 .ret
def c49_19 : ACode := .cond (.t 63) c49_16 c49_18
def c49_20 : ACode := .seq c49_15 c49_19
def c49_21 : ACode := .cond (.t 55) c49_14 c49_20
def c49_22 : ACode := .seq c49_13 c49_21
def c49_23 : ACode := .cond (.t 48) c49_12 c49_22
def c49_24 : ACode := .seq c49_11 c49_23
def c49_25 : ACode := .block 2 c49_24
def c49_26 : ACode := .ops [
    ⟨(some 2), none, .q (.mv (.v (.int .i64 0))), []⟩]
def c49_27 : ACode := .seq c49_26 .ret
def c49_28 : ACode := .seq c49_25 c49_27
def c49_29 : ACode := .seq c49_10 c49_28
def c49_30 : ACode := .seq c49_9 c49_29
def c49_31 : ACode := .seq c49_1 c49_30
def c49_32 : ACode := .seq c49_0 c49_31
@[go_sem] theorem c49_0_wp (P : Program) (Q : APost) (a : AFr) (σ : ASt) : c49_0.wp P Q a σ = ACode.wp P (.ops [
    ⟨(some 2), none, .q (.mv (.v (.int .i64 0))), []⟩]) Q a σ := id rfl
@[go_sem] theorem c49_1_wp (P : Program) (Q : APost) (a : AFr) (σ : ASt) : c49_1.wp P Q a σ = ACode.wp P (.ops [
    ⟨(some 3), none, .q (.mv (.v (.int .i64 0))), []⟩]) Q a σ := id rfl
@[go_sem] theorem c49_2_wp (P : Program) (Q : APost) (a : AFr) (σ : ASt) : c49_2.wp P Q a σ = ACode.wp P (.ops [
    ⟨(some 5), none, .q (.mv (.t 0)), []⟩,
    ⟨(some 6), none, .q (.nc (.t 5)), []⟩,
    ⟨(some 7), none, .q (.fa 1 (.t 6)), []⟩,
    ⟨(some 8), none, .q (.ld none (.t 7)), []⟩,
    ⟨(some 9), none, .q (.mv (.t 3)), []⟩,
    ⟨(some 10), none, .q (.bin .add (.t 8) (.t 9)), []⟩,
    ⟨(some 11), none, .q (.mv (.t 0)), []⟩,
    ⟨(some 12), none, .q (.nc (.t 11)), []⟩,
    ⟨(some 13), none, .q (.fa 0 (.t 12)), []⟩,
    ⟨(some 14), none, .q (.ld none (.t 13)), []⟩,
    ⟨(some 15), none, .q (.lenS (.t 14)), []⟩,
    ⟨(some 16), none, .q (.bin .lss (.t 10) (.t 15)), []⟩,
    ⟨(some 17), none, .q (.mv (.t 16)), []⟩,
    ⟨(some 18), (some (17, true)), .q (.mv (.t 0)), []⟩,
    ⟨(some 19), (some (17, true)), .q (.nc (.t 18)), []⟩,
    ⟨(some 20), (some (17, true)), .q (.fa 0 (.t 19)), []⟩,
    ⟨(some 21), (some (17, true)), .q (.ld none (.t 20)), []⟩,
    ⟨(some 22), (some (17, true)), .q (.mv (.t 0)), []⟩,
    ⟨(some 23), (some (17, true)), .q (.nc (.t 22)), []⟩,
    ⟨(some 24), (some (17, true)), .q (.fa 1 (.t 23)), []⟩,
    ⟨(some 25), (some (17, true)), .q (.ld none (.t 24)), []⟩,
    ⟨(some 26), (some (17, true)), .q (.mv (.t 3)), []⟩,
    ⟨(some 27), (some (17, true)), .q (.bin .add (.t 25) (.t 26)), []⟩,
    ⟨(some 28), (some (17, true)), .q (.idx (.t 21) (.t 27)), []⟩,
    ⟨(some 29), (some (17, true)), .e (.call 48 [(.t 28)]), []⟩,
    ⟨(some 30), none, .q (.pick (.t 17) (.t 29) (.v (.bool false))), []⟩]) Q a σ := id rfl
@[go_sem] theorem c49_3_wp (P : Program) (Q : APost) (a : AFr) (σ : ASt) : c49_3.wp P Q a σ = ACode.wp P (.cond (.t 30) .skip (.exit 0)) Q a σ := id rfl
@[go_sem] theorem c49_4_wp (P : Program) (Q : APost) (a : AFr) (σ : ASt) : c49_4.wp P Q a σ = ACode.wp P (.seq c49_2 c49_3) Q a σ := id rfl
@[go_sem] theorem c49_5_wp (P : Program) (Q : APost) (a : AFr) (σ : ASt) : c49_5.wp P Q a σ = ACode.wp P (.ops [
    ⟨(some 31), none, .q (.mv (.t 3)), []⟩,
    ⟨(some 32), none, .q (.bin .add (.t 31) (.v (.int .i64 1))), []⟩,
    ⟨(some 3), none, .q (.mv (.t 32)), []⟩]) Q a σ := id rfl
@[go_sem] theorem c49_6_wp (P : Program) (Q : APost) (a : AFr) (σ : ASt) : c49_6.wp P Q a σ = ACode.wp P (.block 1 c49_5) Q a σ := id rfl
@[go_sem] theorem c49_7_wp (P : Program) (Q : APost) (a : AFr) (σ : ASt) : c49_7.wp P Q a σ = ACode.wp P (.seq c49_4 c49_6) Q a σ := id rfl
@[go_sem] theorem c49_8_wp (P : Program) (Q : APost) (a : AFr) (σ : ASt) : c49_8.wp P Q a σ = ACode.wp P (.loop c49_7) Q a σ := id rfl
@[go_sem] theorem c49_9_wp (P : Program) (Q : APost) (a : AFr) (σ : ASt) : c49_9.wp P Q a σ = ACode.wp P (.block 0 c49_8) Q a σ := id rfl
@[go_sem] theorem c49_10_wp (P : Program) (Q : APost) (a : AFr) (σ : ASt) : c49_10.wp P Q a σ = ACode.wp P (.ops [
    ⟨(some 33), none, .q (.mv (.t 0)), []⟩,
    ⟨(some 34), none, .q (.nc (.t 33)), []⟩,
    ⟨(some 35), none, .q (.fa 0 (.t 34)), []⟩,
    ⟨(some 36), none, .q (.ld none (.t 35)), []⟩,
    ⟨(some 37), none, .q (.mv (.t 0)), []⟩,
    ⟨(some 38), none, .q (.nc (.t 37)), []⟩,
    ⟨(some 39), none, .q (.fa 1 (.t 38)), []⟩,
    ⟨(some 40), none, .q (.ld none (.t 39)), []⟩,
    ⟨(some 41), none, .q (.mv (.t 0)), []⟩,
    ⟨(some 42), none, .q (.nc (.t 41)), []⟩,
    ⟨(some 43), none, .q (.fa 1 (.t 42)), []⟩,
    ⟨(some 44), none, .q (.ld none (.t 43)), []⟩,
    ⟨(some 45), none, .q (.mv (.t 3)), []⟩,
    ⟨(some 46), none, .q (.bin .add (.t 44) (.t 45)), []⟩,
    ⟨(some 47), none, .q (.sls (true, 0) (.t 36) (.t 40) (.t 46)), []⟩,
    ⟨(some 4), none, .q (.mv (.t 47)), []⟩]) Q a σ := id rfl
@[go_sem] theorem c49_11_wp (P : Program) (Q : APost) (a : AFr) (σ : ASt) : c49_11.wp P Q a σ = ACode.wp P (.ops [
    ⟨(some 49), none, .q (.mv (.t 4)), []⟩,
    ⟨(some 50), none, .e (.call 57 [(.t 49)]), []⟩,
    ⟨(some 48), none, .q (.mv (.t 50)), []⟩]) Q a σ := id rfl
@[go_sem] theorem c49_12_wp (P : Program) (Q : APost) (a : AFr) (σ : ASt) : c49_12.wp P Q a σ = ACode.wp P (.ops [
    ⟨(some 51), none, .q (.mv (.t 0)), []⟩,
    ⟨(some 52), none, .q (.mv (.t 4)), []⟩,
    ⟨(some 53), none, .q (.mv (.t 3)), []⟩,
    ⟨(some 54), none, .e (.call 39 [(.t 51), (.v (.int .i64 1)), (.t 52), (.t 53)]), []⟩]) Q a σ := id rfl
@[go_sem] theorem c49_13_wp (P : Program) (Q : APost) (a : AFr) (σ : ASt) : c49_13.wp P Q a σ = ACode.wp P (.ops [
    ⟨(some 56), none, .q (.mv (.t 4)), []⟩,
    ⟨(some 57), none, .e (.call 58 [(.t 56)]), []⟩,
    ⟨(some 55), none, .q (.mv (.t 57)), []⟩]) Q a σ := id rfl
@[go_sem] theorem c49_14_wp (P : Program) (Q : APost) (a : AFr) (σ : ASt) : c49_14.wp P Q a σ = ACode.wp P (.ops [
    ⟨(some 58), none, .q (.mv (.t 0)), []⟩,
    ⟨(some 59), none, .q (.mv (.t 4)), []⟩,
    ⟨(some 60), none, .e (.call 59 [(.t 59)]), []⟩,
    ⟨(some 61), none, .q (.mv (.t 3)), []⟩,
    ⟨(some 62), none, .e (.call 39 [(.t 58), (.v (.int .i64 4)), (.t 60), (.t 61)]), []⟩]) Q a σ := id rfl
@[go_sem] theorem c49_15_wp (P : Program) (Q : APost) (a : AFr) (σ : ASt) : c49_15.wp P Q a σ = ACode.wp P (.ops [
    ⟨(some 64), none, .q (.mv (.t 4)), []⟩,
    ⟨(some 65), none, .e (.call 60 [(.t 64)]), []⟩,
    ⟨(some 63), none, .q (.mv (.t 65)), []⟩]) Q a σ := id rfl
@[go_sem] theorem c49_16_wp (P : Program) (Q : APost) (a : AFr) (σ : ASt) : c49_16.wp P Q a σ = ACode.wp P (.ops [
    ⟨(some 66), none, .q (.mv (.t 0)), []⟩,
    ⟨(some 67), none, .q (.mv (.t 4)), []⟩,
    ⟨(some 68), none, .e (.call 59 [(.t 67)]), []⟩,
    ⟨(some 69), none, .q (.mv (.t 3)), []⟩,
    ⟨(some 70), none, .e (.call 39 [(.t 66), (.v (.int .i64 3)), (.t 68), (.t 69)]), []⟩]) Q a σ := id rfl
@[go_sem] theorem c49_17_wp (P : Program) (Q : APost) (a : AFr) (σ : ASt) : c49_17.wp P Q a σ = ACode.wp P (.ops [
    ⟨(some 2), none, .q (.mv (.v (.int .i64 10))), []⟩]) Q a σ := id rfl
@[go_sem] theorem c49_18_wp (P : Program) (Q : APost) (a : AFr) (σ : ASt) : c49_18.wp P Q a σ = ACode.wp P (.seq c49_17 .ret) Q a σ := id rfl
@[go_sem] theorem c49_19_wp (P : Program) (Q : APost) (a : AFr) (σ : ASt) : c49_19.wp P Q a σ = ACode.wp P (.cond (.t 63) c49_16 c49_18) Q a σ := id rfl
@[go_sem] theorem c49_20_wp (P : Program) (Q : APost) (a : AFr) (σ : ASt) : c49_20.wp P Q a σ = ACode.wp P (.seq c49_15 c49_19) Q a σ := id rfl
@[go_sem] theorem c49_21_wp (P : Program) (Q : APost) (a : AFr) (σ : ASt) : c49_21.wp P Q a σ = ACode.wp P (.cond (.t 55) c49_14 c49_20) Q a σ := id rfl
@[go_sem] theorem c49_22_wp (P : Program) (Q : APost) (a : AFr) (σ : ASt) : c49_22.wp P Q a σ = ACode.wp P (.seq c49_13 c49_21) Q a σ := id rfl
@[go_sem] theorem c49_23_wp (P : Program) (Q : APost) (a : AFr) (σ : ASt) : c49_23.wp P Q a σ = ACode.wp P (.cond (.t 48) c49_12 c49_22) Q a σ := id rfl
@[go_sem] theorem c49_24_wp (P : Program) (Q : APost) (a : AFr) (σ : ASt) : c49_24.wp P Q a σ = ACode.wp P (.seq c49_11 c49_23) Q a σ := id rfl
@[go_sem] theorem c49_25_wp (P : Program) (Q : APost) (a : AFr) (σ : ASt) : c49_25.wp P Q a σ = ACode.wp P (.block 2 c49_24) Q a σ := id rfl
@[go_sem] theorem c49_26_wp (P : Program) (Q : APost) (a : AFr) (σ : ASt) : c49_26.wp P Q a σ = ACode.wp P (.ops [
    ⟨(some 2), none, .q (.mv (.v (.int .i64 0))), []⟩]) Q a σ := id rfl
@[go_sem] theorem c49_27_wp (P : Program) (Q : APost) (a : AFr) (σ : ASt) : c49_27.wp P Q a σ = ACode.wp P (.seq c49_26 .ret) Q a σ := id rfl
@[go_sem] theorem c49_28_wp (P : Program) (Q : APost) (a : AFr) (σ : ASt) : c49_28.wp P Q a σ = ACode.wp P (.seq c49_25 c49_27) Q a σ := id rfl
@[go_sem] theorem c49_29_wp (P : Program) (Q : APost) (a : AFr) (σ : ASt) : c49_29.wp P Q a σ = ACode.wp P (.seq c49_10 c49_28) Q a σ := id rfl
@[go_sem] theorem c49_30_wp (P : Program) (Q : APost) (a : AFr) (σ : ASt) : c49_30.wp P Q a σ = ACode.wp P (.seq c49_9 c49_29) Q a σ := id rfl
@[go_sem] theorem c49_31_wp (P : Program) (Q : APost) (a : AFr) (σ : ASt) : c49_31.wp P Q a σ = ACode.wp P (.seq c49_1 c49_30) Q a σ := id rfl
@[go_sem] theorem c49_32_wp (P : Program) (Q : APost) (a : AFr) (σ : ASt) : c49_32.wp P Q a σ = ACode.wp P (.seq c49_0 c49_31) Q a σ := id rfl
def c49 : AFn := ⟨71, [.t 2], c49_32⟩
set_option maxRecDepth 100000 in
theorem c49_ok : compF Tryd.prog Tryd.f49 = some c49 := by kernel_rfl
theorem a49 {args : List AV} {σ : ASt} {R : AV → ASt → Prop} (hl : args.length ≤ 71) (h : c49_32.wp Tryd.prog (RetQ [.t 2] R) (init args) σ) : ACalls Tryd.prog 49 args σ R := acalls_of Tryd.func49 c49_ok hl h

/-! 50: (*tabular/token.lexer).quoted -/
def c50_0 : ACode := .ops [
    ⟨(some 2), none, .q (.mv (.v (.int .i64 0))), []⟩]
def c50_1 : ACode := .ops [
    ⟨(some 3), none, .e (.allocT 86), []⟩]
def c50_2 : ACode := .ops [
    ⟨(some 4), none, .q (.mv (.v (.bool true))), []⟩]
def c50_3 : ACode := .ops [
    ⟨(some 5), none, .q (.mv (.v (.int .i64 1))), []⟩]
def c50_4 : ACode := .ops [
    ⟨(some 11), none, .q (.mv (.t 0)), []⟩,
    ⟨(some 12), none, .q (.nc (.t 11)), []⟩,
    ⟨(some 13), none, .q (.fa 0 (.t 12)), []⟩,
    ⟨(some 14), none, .q (.ld none (.t 13)), []⟩,
    ⟨(some 15), none, .q (.mv (.t 0)), []⟩,
    ⟨(some 16), none, .q (.nc (.t 15)), []⟩,
    ⟨(some 17), none, .q (.fa 1 (.t 16)), []⟩,
    ⟨(some 18), none, .q (.ld none (.t 17)), []⟩,
    ⟨(some 19), none, .q (.bin .add (.t 18) (.v (.int .i64 1))), []⟩,
    ⟨(some 20), none, .q (.slfrom (true, 0) (.t 14) (.t 19)), []⟩,
    ⟨(some 21), none, .e (.rng (.t 20)), []⟩]
def c50_5 : ACode := .ops [
    ⟨(some 22), none, .e (.nxt (.t 21)), []⟩,
    ⟨(some 23), none, .q (.ext 0 (.t 22)), []⟩]
def c50_6 : ACode := .cond (.t 23) .skip (.exit 0)
def c50_7 : ACode := .ops [
    ⟨(some 24), none, .q (.ext 1 (.t 22)), []⟩,
    ⟨(some 25), none, .q (.ext 2 (.t 22)), []⟩,
    ⟨(some 6), none, .q (.mv (.t 24)), []⟩,
    ⟨(some 7), none, .q (.mv (.t 25)), []⟩]
def c50_8 : ACode := .ops [
    ⟨(some 26), none, .q (.mv (.t 6)), []⟩,
    ⟨(some 27), none, .q (.bin .add (.t 26) (.v (.int .i64 1))), []⟩,
    ⟨(some 28), none, .q (.mv (.t 5)), []⟩,
    ⟨(some 29), none, .q (.bin .lss (.t 27) (.t 28)), []⟩]
def c50_9 : ACode := .cond (.t 29) (.exit 1) .skip
def c50_10 : ACode := .seq c50_8 c50_9
def c50_11 : ACode := .ops [
    ⟨(some 30), none, .q (.mv (.t 0)), []⟩,
    ⟨(some 31), none, .q (.nc (.t 30)), []⟩,
    ⟨(some 32), none, .q (.fa 1 (.t 31)), []⟩,
    ⟨(some 33), none, .q (.ld none (.t 32)), []⟩,
    ⟨(some 34), none, .q (.bin .add (.t 33) (.v (.int .i64 1))), []⟩,
    ⟨(some 35), none, .q (.mv (.t 6)), []⟩,
    ⟨(some 36), none, .q (.bin .add (.t 34) (.t 35)), []⟩,
    ⟨(some 8), none, .q (.mv (.t 36)), []⟩]
def c50_12 : ACode := .ops [
    ⟨(some 37), none, .q (.mv (.t 7)), []⟩,
    ⟨(some 38), none, .q (.bin .eql (.t 37) (.v (.int .i32 65533))), []⟩]
def c50_13 : ACode := .ops [
    ⟨(some 40), none, .q (.mv (.t 0)), []⟩,
    ⟨(some 41), none, .q (.nc (.t 40)), []⟩,
    ⟨(some 42), none, .q (.fa 0 (.t 41)), []⟩,
    ⟨(some 43), none, .q (.ld none (.t 42)), []⟩,
    ⟨(some 44), none, .q (.mv (.t 8)), []⟩,
    ⟨(some 45), none, .q (.slfrom (true, 0) (.t 43) (.t 44)), []⟩,
    ⟨(some 46), none, .e (.call 40 [(.t 45)]), []⟩,
    ⟨(some 39), none, .q (.mv (.t 46)), []⟩,
    ⟨(some 47), none, .q (.ext 0 (.t 39)), []⟩,
    ⟨(some 48), none, .q (.ext 1 (.t 39)), []⟩,
    ⟨(some 9), none, .q (.mv (.t 47)), []⟩,
    ⟨(some 10), none, .q (.mv (.t 48)), []⟩]
def c50_14 : ACode := .ops [
    ⟨(some 49), none, .q (.mv (.t 10)), []⟩,
    ⟨(some 50), none, .q (.bin .eql (.t 49) (.v (.int .i64 1))), []⟩]
def c50_15 : ACode := .ops [
    ⟨(some 51), none, .q (.mv (.t 0)), []⟩,
    ⟨(some 52), none, .q (.mv (.t 8)), []⟩,
    ⟨(some 53), none, .e (.call 47 [(.t 51), (.t 52)]), []⟩]
def c50_16 : ACode := .ops [
    ⟨(some 2), none, .q (.mv (.v (.int .i64 10))), []⟩]
def c50_17 : ACode := .seq c50_16 .ret
def c50_18 : ACode := .seq c50_15 c50_17
def c50_19 : ACode := .cond (.t 50) c50_18 .skip
def c50_20 : ACode := .seq c50_14 c50_19
def c50_21 : ACode := .seq c50_13 c50_20
def c50_22 : ACode := .cond (.t 38) c50_21 .skip
def c50_23 : ACode := .seq c50_12 c50_22
def c50_24 : ACode := .ops [
    ⟨(some 54), none, .q (.mv (.t 7)), []⟩,
    ⟨(some 55), none, .q (.bin .neq (.t 54) (.v (.int .i32 34))), []⟩]
def c50_25 : ACode := .ops [
    ⟨(some 56), none, .q (.mv (.t 7)), []⟩,
    ⟨(some 57), none, .e (.call 61 [(.t 3), (.t 56)]), []⟩]
def c50_26 : ACode := .ops [
    ⟨(some 58), none, .q (.mv (.t 6)), []⟩,
    ⟨(some 59), none, .q (.bin .add (.t 58) (.v (.int .i64 1))), []⟩,
    ⟨(some 60), none, .q (.mv (.t 7)), []⟩,
    ⟨(some 61), none, .e (.call 62 [(.t 60)]), []⟩,
    ⟨(some 62), none, .q (.bin .add (.t 59) (.t 61)), []⟩,
    ⟨(some 5), none, .q (.mv (.t 62)), []⟩]
def c50_27 : ACode := .seq c50_26 (.exit 1)
def c50_28 : ACode := .seq c50_25 c50_27
def c50_29 : ACode := .cond (.t 55) c50_28 .skip
def c50_30 : ACode := .seq c50_24 c50_29
def c50_31 : ACode := .ops [
    ⟨(some 63), none, .q (.mv (.t 8)), []⟩,
    ⟨(some 64), none, .q (.bin .add (.t 63) (.v (.int .i64 1))), []⟩,
    ⟨(some 65), none, .q (.mv (.t 0)), []⟩,
    ⟨(some 66), none, .q (.nc (.t 65)), []⟩,
    ⟨(some 67), none, .q (.fa 0 (.t 66)), []⟩,
    ⟨(some 68), none, .q (.ld none (.t 67)), []⟩,
    ⟨(some 69), none, .q (.lenS (.t 68)), []⟩,
    ⟨(some 70), none, .q (.bin .lss (.t 64) (.t 69)), []⟩,
    ⟨(some 71), none, .q (.mv (.t 70)), []⟩,
    ⟨(some 72), (some (71, true)), .q (.mv (.t 0)), []⟩,
    ⟨(some 73), (some (71, true)), .q (.nc (.t 72)), []⟩,
    ⟨(some 74), (some (71, true)), .q (.fa 0 (.t 73)), []⟩,
    ⟨(some 75), (some (71, true)), .q (.ld none (.t 74)), []⟩,
    ⟨(some 76), (some (71, true)), .q (.mv (.t 8)), []⟩,
    ⟨(some 77), (some (71, true)), .q (.bin .add (.t 76) (.v (.int .i64 1))), []⟩,
    ⟨(some 78), (some (71, true)), .q (.idx (.t 75) (.t 77)), []⟩,
    ⟨(some 79), (some (71, true)), .q (.bin .eql (.t 78) (.v (.int .u8 34))), []⟩,
    ⟨(some 80), none, .q (.pick (.t 71) (.t 79) (.v (.bool false))), []⟩]
def c50_32 : ACode := .ops [
    ⟨(some 81), none, .e (.call 63 [(.t 3), (.v (.int .u8 34))]), []⟩]
def c50_33 : ACode := .ops [
    ⟨(some 82), none, .q (.mv (.t 6)), []⟩,
    ⟨(some 83), none, .q (.bin .add (.t 82) (.v (.int .i64 3))), []⟩,
    ⟨(some 5), none, .q (.mv (.t 83)), []⟩]
def c50_34 : ACode := .seq c50_33 (.exit 1)
def c50_35 : ACode := .seq c50_32 c50_34
def c50_36 : ACode := .cond (.t 80) c50_35 .skip
def c50_37 : ACode := .seq c50_31 c50_36
def c50_38 : ACode := .ops [
    ⟨(some 84), none, .q (.mv (.t 6)), []⟩,
    ⟨(some 85), none, .q (.bin .add (.t 84) (.v (.int .i64 2))), []⟩,
    ⟨(some 5), none, .q (.mv (.t 85)), []⟩]
def c50_39 : ACode := .ops [
    ⟨(some 4), none, .q (.mv (.v (.bool false))), []⟩]
def c50_40 : ACode := .seq c50_39 (.exit 0)
def c50_41 : ACode := .seq c50_38 c50_40
def c50_42 : ACode := .seq c50_37 c50_41
def c50_43 : ACode := .seq c50_30 c50_42
def c50_44 : ACode := .seq c50_23 c50_43
def c50_45 : ACode := .seq c50_11 c50_44
def c50_46 : ACode := .seq c50_10 c50_45
def c50_47 : ACode := .seq c50_7 c50_46
def c50_48 : ACode := .block 1 c50_47
def c50_49 : ACode := .seq c50_6 c50_48
def c50_50 : ACode := .seq c50_5 c50_49
def c50_51 : ACode := .loop c50_50
def c50_52 : ACode := .block 0 c50_51
def c50_53 : ACode := .seq c50_4 c50_52
def c50_54 : ACode := .ops [
    ⟨(some 86), none, .q (.mv (.t 4)), []⟩]
def c50_55 : ACode := .ops [
    ⟨(some 2), none, .q (.mv (.v (.int .i64 10))), []⟩]
def c50_56 : ACode := .seq c50_55 .ret
def c50_57 : ACode := .cond (.t 86) c50_56 .skip
def c50_58 : ACode := .seq c50_54 c50_57
def c50_59 : ACode := .ops [
    ⟨(some 87), none, .q (.mv (.t 0)), []⟩,
    ⟨(some 88), none, .e (.call 64 [(.t 3)]), []⟩,
    ⟨(some 89), none, .q (.mv (.t 5)), []⟩,
    ⟨(some 90), none, .e (.call 39 [(.t 87), (.v (.int .i64 2)), (.t 88), (.t 89)]), []⟩]
def c50_60 : ACode := .ops [
    ⟨(some 2), none, .q (.mv (.v (.int .i64 0))), []⟩]
def c50_61 : ACode := .seq c50_60 .ret
def c50_62 : ACode := .seq c50_59 c50_61
def c50_63 : ACode := .seq c50_58 c50_62
def c50_64 : ACode := .seq c50_53 c50_63
def c50_65 : ACode := .seq c50_3 c50_64
def c50_66 : ACode := .seq c50_2 c50_65
def c50_67 : ACode := .seq c50_1 c50_66
def c50_68 : ACode := .seq c50_0 c50_67
@[go_sem] theorem c50_0_wp (P : Program) (Q : APost) (a : AFr) (σ : ASt) : c50_0.wp P Q a σ = ACode.wp P (.ops [
    ⟨(some 2), none, .q (.mv (.v (.int .i64 0))), []⟩]) Q a σ := id rfl
@[go_sem] theorem c50_1_wp (P : Program) (Q : APost) (a : AFr) (σ : ASt) : c50_1.wp P Q a σ = ACode.wp P (.ops [
    ⟨(some 3), none, .e (.allocT 86), []⟩]) Q a σ := id rfl
@[go_sem] theorem c50_2_wp (P : Program) (Q : APost) (a : AFr) (σ : ASt) : c50_2.wp P Q a σ = ACode.wp P (.ops [
    ⟨(some 4), none, .q (.mv (.v (.bool true))), []⟩]) Q a σ := id rfl
@[go_sem] theorem c50_3_wp (P : Program) (Q : APost) (a : AFr) (σ : ASt) : c50_3.wp P Q a σ = ACode.wp P (.ops [
    ⟨(some 5), none, .q (.mv (.v (.int .i64 1))), []⟩]) Q a σ := id rfl
@[go_sem] theorem c50_4_wp (P : Program) (Q : APost) (a : AFr) (σ : ASt) : c50_4.wp P Q a σ = ACode.wp P (.ops [
    ⟨(some 11), none, .q (.mv (.t 0)), []⟩,
    ⟨(some 12), none, .q (.nc (.t 11)), []⟩,
    ⟨(some 13), none, .q (.fa 0 (.t 12)), []⟩,
    ⟨(some 14), none, .q (.ld none (.t 13)), []⟩,
    ⟨(some 15), none, .q (.mv (.t 0)), []⟩,
    ⟨(some 16), none, .q (.nc (.t 15)), []⟩,
    ⟨(some 17), none, .q (.fa 1 (.t 16)), []⟩,
    ⟨(some 18), none, .q (.ld none (.t 17)), []⟩,
    ⟨(some 19), none, .q (.bin .add (.t 18) (.v (.int .i64 1))), []⟩,
    ⟨(some 20), none, .q (.slfrom (true, 0) (.t 14) (.t 19)), []⟩,
    ⟨(some 21), none, .e (.rng (.t 20)), []⟩]) Q a σ := id rfl
@[go_sem] theorem c50_5_wp (P : Program) (Q : APost) (a : AFr) (σ : ASt) : c50_5.wp P Q a σ = ACode.wp P (.ops [
    ⟨(some 22), none, .e (.nxt (.t 21)), []⟩,
    ⟨(some 23), none, .q (.ext 0 (.t 22)), []⟩]) Q a σ := id rfl
@[go_sem] theorem c50_6_wp (P : Program) (Q : APost) (a : AFr) (σ : ASt) : c50_6.wp P Q a σ = ACode.wp P (.cond (.t 23) .skip (.exit 0)) Q a σ := id rfl
@[go_sem] theorem c50_7_wp (P : Program) (Q : APost) (a : AFr) (σ : ASt) : c50_7.wp P Q a σ = ACode.wp P (.ops [
    ⟨(some 24), none, .q (.ext 1 (.t 22)), []⟩,
    ⟨(some 25), none, .q (.ext 2 (.t 22)), []⟩,
    ⟨(some 6), none, .q (.mv (.t 24)), []⟩,
    ⟨(some 7), none, .q (.mv (.t 25)), []⟩]) Q a σ := id rfl
@[go_sem] theorem c50_8_wp (P : Program) (Q : APost) (a : AFr) (σ : ASt) : c50_8.wp P Q a σ = ACode.wp P (.ops [
    ⟨(some 26), none, .q (.mv (.t 6)), []⟩,
    ⟨(some 27), none, .q (.bin .add (.t 26) (.v (.int .i64 1))), []⟩,
    ⟨(some 28), none, .q (.mv (.t 5)), []⟩,
    ⟨(some 29), none, .q (.bin .lss (.t 27) (.t 28)), []⟩]) Q a σ := id rfl
@[go_sem] theorem c50_9_wp (P : Program) (Q : APost) (a : AFr) (σ : ASt) : c50_9.wp P Q a σ = ACode.wp P (.cond (.t 29) (.exit 1) .skip) Q a σ := id rfl
@[go_sem] theorem c50_10_wp (P : Program) (Q : APost) (a : AFr) (σ : ASt) : c50_10.wp P Q a σ = ACode.wp P (.seq c50_8 c50_9) Q a σ := id rfl
@[go_sem] theorem c50_11_wp (P : Program) (Q : APost) (a : AFr) (σ : ASt) : c50_11.wp P Q a σ = ACode.wp P (.ops [
    ⟨(some 30), none, .q (.mv (.t 0)), []⟩,
    ⟨(some 31), none, .q (.nc (.t 30)), []⟩,
    ⟨(some 32), none, .q (.fa 1 (.t 31)), []⟩,
    ⟨(some 33), none, .q (.ld none (.t 32)), []⟩,
    ⟨(some 34), none, .q (.bin .add (.t 33) (.v (.int .i64 1))), []⟩,
    ⟨(some 35), none, .q (.mv (.t 6)), []⟩,
    ⟨(some 36), none, .q (.bin .add (.t 34) (.t 35)), []⟩,
    ⟨(some 8), none, .q (.mv (.t 36)), []⟩]) Q a σ := id rfl
@[go_sem] theorem c50_12_wp (P : Program) (Q : APost) (a : AFr) (σ : ASt) : c50_12.wp P Q a σ = ACode.wp P (.ops [
    ⟨(some 37), none, .q (.mv (.t 7)), []⟩,
    ⟨(some 38), none, .q (.bin .eql (.t 37) (.v (.int .i32 65533))), []⟩]) Q a σ := id rfl
@[go_sem] theorem c50_13_wp (P : Program) (Q : APost) (a : AFr) (σ : ASt) : c50_13.wp P Q a σ = ACode.wp P (.ops [
    ⟨(some 40), none, .q (.mv (.t 0)), []⟩,
    ⟨(some 41), none, .q (.nc (.t 40)), []⟩,
    ⟨(some 42), none, .q (.fa 0 (.t 41)), []⟩,
    ⟨(some 43), none, .q (.ld none (.t 42)), []⟩,
    ⟨(some 44), none, .q (.mv (.t 8)), []⟩,
    ⟨(some 45), none, .q (.slfrom (true, 0) (.t 43) (.t 44)), []⟩,
    ⟨(some 46), none, .e (.call 40 [(.t 45)]), []⟩,
    ⟨(some 39), none, .q (.mv (.t 46)), []⟩,
    ⟨(some 47), none, .q (.ext 0 (.t 39)), []⟩,
    ⟨(some 48), none, .q (.ext 1 (.t 39)), []⟩,
    ⟨(some 9), none, .q (.mv (.t 47)), []⟩,
    ⟨(some 10), none, .q (.mv (.t 48)), []⟩]) Q a σ := id rfl
@[go_sem] theorem c50_14_wp (P : Program) (Q : APost) (a : AFr) (σ : ASt) : c50_14.wp P Q a σ = ACode.wp P (.ops [
    ⟨(some 49), none, .q (.mv (.t 10)), []⟩,
    ⟨(some 50), none, .q (.bin .eql (.t 49) (.v (.int .i64 1))), []⟩]) Q a σ := id rfl
@[go_sem] theorem c50_15_wp (P : Program) (Q : APost) (a : AFr) (σ : ASt) : c50_15.wp P Q a σ = ACode.wp P (.ops [
    ⟨(some 51), none, .q (.mv (.t 0)), []⟩,
    ⟨(some 52), none, .q (.mv (.t 8)), []⟩,
    ⟨(some 53), none, .e (.call 47 [(.t 51), (.t 52)]), []⟩]) Q a σ := id rfl
@[go_sem] theorem c50_16_wp (P : Program) (Q : APost) (a : AFr) (σ : ASt) : c50_16.wp P Q a σ = ACode.wp P (.ops [
    ⟨(some 2), none, .q (.mv (.v (.int .i64 10))), []⟩]) Q a σ := id rfl
@[go_sem] theorem c50_17_wp (P : Program) (Q : APost) (a : AFr) (σ : ASt) : c50_17.wp P Q a σ = ACode.wp P (.seq c50_16 .ret) Q a σ := id rfl
@[go_sem] theorem c50_18_wp (P : Program) (Q : APost) (a : AFr) (σ : ASt) : c50_18.wp P Q a σ = ACode.wp P (.seq c50_15 c50_17) Q a σ := id rfl
@[go_sem] theorem c50_19_wp (P : Program) (Q : APost) (a : AFr) (σ : ASt) : c50_19.wp P Q a σ = ACode.wp P (.cond (.t 50) c50_18 .skip) Q a σ := id rfl
@[go_sem] theorem c50_20_wp (P : Program) (Q : APost) (a : AFr) (σ : ASt) : c50_20.wp P Q a σ = ACode.wp P (.seq c50_14 c50_19) Q a σ := id rfl
@[go_sem] theorem c50_21_wp (P : Program) (Q : APost) (a : AFr) (σ : ASt) : c50_21.wp P Q a σ = ACode.wp P (.seq c50_13 c50_20) Q a σ := id rfl
@[go_sem] theorem c50_22_wp (P : Program) (Q : APost) (a : AFr) (σ : ASt) : c50_22.wp P Q a σ = ACode.wp P (.cond (.t 38) c50_21 .skip) Q a σ := id rfl
@[go_sem] theorem c50_23_wp (P : Program) (Q : APost) (a : AFr) (σ : ASt) : c50_23.wp P Q a σ = ACode.wp P (.seq c50_12 c50_22) Q a σ := id rfl
@[go_sem] theorem c50_24_wp (P : Program) (Q : APost) (a : AFr) (σ : ASt) : c50_24.wp P Q a σ = ACode.wp P (.ops [
    ⟨(some 54), none, .q (.mv (.t 7)), []⟩,
    ⟨(some 55), none, .q (.bin .neq (.t 54) (.v (.int .i32 34))), []⟩]) Q a σ := id rfl
@[go_sem] theorem c50_25_wp (P : Program) (Q : APost) (a : AFr) (σ : ASt) : c50_25.wp P Q a σ = ACode.wp P (.ops [
    ⟨(some 56), none, .q (.mv (.t 7)), []⟩,
    ⟨(some 57), none, .e (.call 61 [(.t 3), (.t 56)]), []⟩]) Q a σ := id rfl
@[go_sem] theorem c50_26_wp (P : Program) (Q : APost) (a : AFr) (σ : ASt) : c50_26.wp P Q a σ = ACode.wp P (.ops [
    ⟨(some 58), none, .q (.mv (.t 6)), []⟩,
    ⟨(some 59), none, .q (.bin .add (.t 58) (.v (.int .i64 1))), []⟩,
    ⟨(some 60), none, .q (.mv (.t 7)), []⟩,
    ⟨(some 61), none, .e (.call 62 [(.t 60)]), []⟩,
    ⟨(some 62), none, .q (.bin .add (.t 59) (.t 61)), []⟩,
    ⟨(some 5), none, .q (.mv (.t 62)), []⟩]) Q a σ := id rfl
@[go_sem] theorem c50_27_wp (P : Program) (Q : APost) (a : AFr) (σ : ASt) : c50_27.wp P Q a σ = ACode.wp P (.seq c50_26 (.exit 1)) Q a σ := id rfl
@[go_sem] theorem c50_28_wp (P : Program) (Q : APost) (a : AFr) (σ : ASt) : c50_28.wp P Q a σ = ACode.wp P (.seq c50_25 c50_27) Q a σ := id rfl
@[go_sem] theorem c50_29_wp (P : Program) (Q : APost) (a : AFr) (σ : ASt) : c50_29.wp P Q a σ = ACode.wp P (.cond (.t 55) c50_28 .skip) Q a σ := id rfl
@[go_sem] theorem c50_30_wp (P : Program) (Q : APost) (a : AFr) (σ : ASt) : c50_30.wp P Q a σ = ACode.wp P (.seq c50_24 c50_29) Q a σ := id rfl
@[go_sem] theorem c50_31_wp (P : Program) (Q : APost) (a : AFr) (σ : ASt) : c50_31.wp P Q a σ = ACode.wp P (.ops [
    ⟨(some 63), none, .q (.mv (.t 8)), []⟩,
    ⟨(some 64), none, .q (.bin .add (.t 63) (.v (.int .i64 1))), []⟩,
    ⟨(some 65), none, .q (.mv (.t 0)), []⟩,
    ⟨(some 66), none, .q (.nc (.t 65)), []⟩,
    ⟨(some 67), none, .q (.fa 0 (.t 66)), []⟩,
    ⟨(some 68), none, .q (.ld none (.t 67)), []⟩,
    ⟨(some 69), none, .q (.lenS (.t 68)), []⟩,
    ⟨(some 70), none, .q (.bin .lss (.t 64) (.t 69)), []⟩,
    ⟨(some 71), none, .q (.mv (.t 70)), []⟩,
    ⟨(some 72), (some (71, true)), .q (.mv (.t 0)), []⟩,
    ⟨(some 73), (some (71, true)), .q (.nc (.t 72)), []⟩,
    ⟨(some 74), (some (71, true)), .q (.fa 0 (.t 73)), []⟩,
    ⟨(some 75), (some (71, true)), .q (.ld none (.t 74)), []⟩,
    ⟨(some 76), (some (71, true)), .q (.mv (.t 8)), []⟩,
    ⟨(some 77), (some (71, true)), .q (.bin .add (.t 76) (.v (.int .i64 1))), []⟩,
    ⟨(some 78), (some (71, true)), .q (.idx (.t 75) (.t 77)), []⟩,
    ⟨(some 79), (some (71, true)), .q (.bin .eql (.t 78) (.v (.int .u8 34))), []⟩,
    ⟨(some 80), none, .q (.pick (.t 71) (.t 79) (.v (.bool false))), []⟩]) Q a σ := id rfl
@[go_sem] theorem c50_32_wp (P : Program) (Q : APost) (a : AFr) (σ : ASt) : c50_32.wp P Q a σ = ACode.wp P (.ops [
    ⟨(some 81), none, .e (.call 63 [(.t 3), (.v (.int .u8 34))]), []⟩]) Q a σ := id rfl
@[go_sem] theorem c50_33_wp (P : Program) (Q : APost) (a : AFr) (σ : ASt) : c50_33.wp P Q a σ = ACode.wp P (.ops [
    ⟨(some 82), none, .q (.mv (.t 6)), []⟩,
    ⟨(some 83), none, .q (.bin .add (.t 82) (.v (.int .i64 3))), []⟩,
    ⟨(some 5), none, .q (.mv (.t 83)), []⟩]) Q a σ := id rfl
@[go_sem] theorem c50_34_wp (P : Program) (Q : APost) (a : AFr) (σ : ASt) : c50_34.wp P Q a σ = ACode.wp P (.seq c50_33 (.exit 1)) Q a σ := id rfl
@[go_sem] theorem c50_35_wp (P : Program) (Q : APost) (a : AFr) (σ : ASt) : c50_35.wp P Q a σ = ACode.wp P (.seq c50_32 c50_34) Q a σ := id rfl
@[go_sem] theorem c50_36_wp (P : Program) (Q : APost) (a : AFr) (σ : ASt) : c50_36.wp P Q a σ = ACode.wp P (.cond (.t 80) c50_35 .skip) Q a σ := id rfl
@[go_sem] theorem c50_37_wp (P : Program) (Q : APost) (a : AFr) (σ : ASt) : c50_37.wp P Q a σ = ACode.wp P (.seq c50_31 c50_36) Q a σ := id rfl
@[go_sem] theorem c50_38_wp (P : Program) (Q : APost) (a : AFr) (σ : ASt) : c50_38.wp P Q a σ = ACode.wp P (.ops [
    ⟨(some 84), none, .q (.mv (.t 6)), []⟩,
    ⟨(some 85), none, .q (.bin .add (.t 84) (.v (.int .i64 2))), []⟩,
    ⟨(some 5), none, .q (.mv (.t 85)), []⟩]) Q a σ := id rfl
@[go_sem] theorem c50_39_wp (P : Program) (Q : APost) (a : AFr) (σ : ASt) : c50_39.wp P Q a σ = ACode.wp P (.ops [
    ⟨(some 4), none, .q (.mv (.v (.bool false))), []⟩]) Q a σ := id rfl
@[go_sem] theorem c50_40_wp (P : Program) (Q : APost) (a : AFr) (σ : ASt) : c50_40.wp P Q a σ = ACode.wp P (.seq c50_39 (.exit 0)) Q a σ := id rfl
@[go_sem] theorem c50_41_wp (P : Program) (Q : APost) (a : AFr) (σ : ASt) : c50_41.wp P Q a σ = ACode.wp P (.seq c50_38 c50_40) Q a σ := id rfl
@[go_sem] theorem c50_42_wp (P : Program) (Q : APost) (a : AFr) (σ : ASt) : c50_42.wp P Q a σ = ACode.wp P (.seq c50_37 c50_41) Q a σ := id rfl
@[go_sem] theorem c50_43_wp (P : Program) (Q : APost) (a : AFr) (σ : ASt) : c50_43.wp P Q a σ = ACode.wp P (.seq c50_30 c50_42) Q a σ := id rfl
@[go_sem] theorem c50_44_wp (P : Program) (Q : APost) (a : AFr) (σ : ASt) : c50_44.wp P Q a σ = ACode.wp P (.seq c50_23 c50_43) Q a σ := id rfl
@[go_sem] theorem c50_45_wp (P : Program) (Q : APost) (a : AFr) (σ : ASt) : c50_45.wp P Q a σ = ACode.wp P (.seq c50_11 c50_44) Q a σ := id rfl
@[go_sem] theorem c50_46_wp (P : Program) (Q : APost) (a : AFr) (σ : ASt) : c50_46.wp P Q a σ = ACode.wp P (.seq c50_10 c50_45) Q a σ := id rfl
@[go_sem] theorem c50_47_wp (P : Program) (Q : APost) (a : AFr) (σ : ASt) : c50_47.wp P Q a σ = ACode.wp P (.seq c50_7 c50_46) Q a σ := id rfl
@[go_sem] theorem c50_48_wp (P : Program) (Q : APost) (a : AFr) (σ : ASt) : c50_48.wp P Q a σ = ACode.wp P (.block 1 c50_47) Q a σ := id rfl
@[go_sem] theorem c50_49_wp (P : Program) (Q : APost) (a : AFr) (σ : ASt) : c50_49.wp P Q a σ = ACode.wp P (.seq c50_6 c50_48) Q a σ := id rfl
@[go_sem] theorem c50_50_wp (P : Program) (Q : APost) (a : AFr) (σ : ASt) : c50_50.wp P Q a σ = ACode.wp P (.seq c50_5 c50_49) Q a σ := id rfl
@[go_sem] theorem c50_51_wp (P : Program) (Q : APost) (a : AFr) (σ : ASt) : c50_51.wp P Q a σ = ACode.wp P (.loop c50_50) Q a σ := id rfl
@[go_sem] theorem c50_52_wp (P : Program) (Q : APost) (a : AFr) (σ : ASt) : c50_52.wp P Q a σ = ACode.wp P (.block 0 c50_51) Q a σ := id rfl
@[go_sem] theorem c50_53_wp (P : Program) (Q : APost) (a : AFr) (σ : ASt) : c50_53.wp P Q a σ = ACode.wp P (.seq c50_4 c50_52) Q a σ := id rfl
@[go_sem] theorem c50_54_wp (P : Program) (Q : APost) (a : AFr) (σ : ASt) : c50_54.wp P Q a σ = ACode.wp P (.ops [
    ⟨(some 86), none, .q (.mv (.t 4)), []⟩]) Q a σ := id rfl
@[go_sem] theorem c50_55_wp (P : Program) (Q : APost) (a : AFr) (σ : ASt) : c50_55.wp P Q a σ = ACode.wp P (.ops [
    ⟨(some 2), none, .q (.mv (.v (.int .i64 10))), []⟩]) Q a σ := id rfl
@[go_sem] theorem c50_56_wp (P : Program) (Q : APost) (a : AFr) (σ : ASt) : c50_56.wp P Q a σ = ACode.wp P (.seq c50_55 .ret) Q a σ := id rfl
@[go_sem] theorem c50_57_wp (P : Program) (Q : APost) (a : AFr) (σ : ASt) : c50_57.wp P Q a σ = ACode.wp P (.cond (.t 86) c50_56 .skip) Q a σ := id rfl
@[go_sem] theorem c50_58_wp (P : Program) (Q : APost) (a : AFr) (σ : ASt) : c50_58.wp P Q a σ = ACode.wp P (.seq c50_54 c50_57) Q a σ := id rfl
@[go_sem] theorem c50_59_wp (P : Program) (Q : APost) (a : AFr) (σ : ASt) : c50_59.wp P Q a σ = ACode.wp P (.ops [
    ⟨(some 87), none, .q (.mv (.t 0)), []⟩,
    ⟨(some 88), none, .e (.call 64 [(.t 3)]), []⟩,
    ⟨(some 89), none, .q (.mv (.t 5)), []⟩,
    ⟨(some 90), none, .e (.call 39 [(.t 87), (.v (.int .i64 2)), (.t 88), (.t 89)]), []⟩]) Q a σ := id rfl
@[go_sem] theorem c50_60_wp (P : Program) (Q : APost) (a : AFr) (σ : ASt) : c50_60.wp P Q a σ = ACode.wp P (.ops [
    ⟨(some 2), none, .q (.mv (.v (.int .i64 0))), []⟩]) Q a σ := id rfl
@[go_sem] theorem c50_61_wp (P : Program) (Q : APost) (a : AFr) (σ : ASt) : c50_61.wp P Q a σ = ACode.wp P (.seq c50_60 .ret) Q a σ := id rfl
@[go_sem] theorem c50_62_wp (P : Program) (Q : APost) (a : AFr) (σ : ASt) : c50_62.wp P Q a σ = ACode.wp P (.seq c50_59 c50_61) Q a σ := id rfl
@[go_sem] theorem c50_63_wp (P : Program) (Q : APost) (a : AFr) (σ : ASt) : c50_63.wp P Q a σ = ACode.wp P (.seq c50_58 c50_62) Q a σ := id rfl
@[go_sem] theorem c50_64_wp (P : Program) (Q : APost) (a : AFr) (σ : ASt) : c50_64.wp P Q a σ = ACode.wp P (.seq c50_53 c50_63) Q a σ := id rfl
@[go_sem] theorem c50_65_wp (P : Program) (Q : APost) (a : AFr) (σ : ASt) : c50_65.wp P Q a σ = ACode.wp P (.seq c50_3 c50_64) Q a σ := id rfl
@[go_sem] theorem c50_66_wp (P : Program) (Q : APost) (a : AFr) (σ : ASt) : c50_66.wp P Q a σ = ACode.wp P (.seq c50_2 c50_65) Q a σ := id rfl
@[go_sem] theorem c50_67_wp (P : Program) (Q : APost) (a : AFr) (σ : ASt) : c50_67.wp P Q a σ = ACode.wp P (.seq c50_1 c50_66) Q a σ := id rfl
@[go_sem] theorem c50_68_wp (P : Program) (Q : APost) (a : AFr) (σ : ASt) : c50_68.wp P Q a σ = ACode.wp P (.seq c50_0 c50_67) Q a σ := id rfl
def c50 : AFn := ⟨91, [.t 2], c50_68⟩
set_option maxRecDepth 100000 in
theorem c50_ok : compF Tryd.prog Tryd.f50 = some c50 := by kernel_rfl
theorem a50 {args : List AV} {σ : ASt} {R : AV → ASt → Prop} (hl : args.length ≤ 91) (h : c50_68.wp Tryd.prog (RetQ [.t 2] R) (init args) σ) : ACalls Tryd.prog 50 args σ R := acalls_of Tryd.func50 c50_ok hl h

/-! 51: (*tabular/token.lexer).failure -/
def c51_0 : ACode := .ops [
    ⟨(some 2), none, .q (.mv (.v (.int .i64 0))), []⟩]
def c51_1 : ACode := .ops [
    ⟨(some 6), none, .e (.call 65 []), []⟩,
    ⟨(some 7), none, .q (.len (.t 6)), []⟩,
    ⟨(some 8), none, .q (.mv (.v (.int .i64 0))), []⟩]
def c51_2 : ACode := .ops [
    ⟨(some 9), none, .q (.bin .lss (.t 8) (.t 7)), []⟩]
def c51_3 : ACode := .cond (.t 9) .skip (.exit 0)
def c51_4 : ACode := .ops [
    ⟨(some 10), none, .q (.ia 1 (.t 6) (.t 8)), []⟩,
    ⟨(some 11), none, .q (.ld none (.t 10)), []⟩,
    ⟨(some 4), none, .q (.mv (.t 11)), []⟩]
def c51_5 : ACode := .ops [
    ⟨(some 12), none, .q (.mv (.t 4)), []⟩,
    ⟨(some 13), none, .q (.lenS (.t 12)), []⟩,
    ⟨(some 5), none, .q (.mv (.t 13)), []⟩]
def c51_6 : ACode := .ops [
    ⟨(some 14), none, .q (.mv (.t 0)), []⟩,
    ⟨(some 15), none, .q (.nc (.t 14)), []⟩,
    ⟨(some 16), none, .q (.fa 1 (.t 15)), []⟩,
    ⟨(some 17), none, .q (.ld none (.t 16)), []⟩,
    ⟨(some 18), none, .q (.mv (.t 5)), []⟩,
    ⟨(some 19), none, .q (.bin .add (.t 17) (.t 18)), []⟩,
    ⟨(some 20), none, .q (.mv (.t 0)), []⟩,
    ⟨(some 21), none, .q (.nc (.t 20)), []⟩,
    ⟨(some 22), none, .q (.fa 0 (.t 21)), []⟩,
    ⟨(some 23), none, .q (.ld none (.t 22)), []⟩,
    ⟨(some 24), none, .q (.lenS (.t 23)), []⟩,
    ⟨(some 25), none, .q (.bin .leq (.t 19) (.t 24)), []⟩,
    ⟨(some 26), none, .q (.mv (.t 25)), []⟩,
    ⟨(some 27), (some (26, true)), .q (.mv (.t 0)), []⟩,
    ⟨(some 28), (some (26, true)), .q (.nc (.t 27)), []⟩,
    ⟨(some 29), (some (26, true)), .q (.fa 0 (.t 28)), []⟩,
    ⟨(some 30), (some (26, true)), .q (.ld none (.t 29)), []⟩,
    ⟨(some 31), (some (26, true)), .q (.mv (.t 0)), []⟩,
    ⟨(some 32), (some (26, true)), .q (.nc (.t 31)), []⟩,
    ⟨(some 33), (some (26, true)), .q (.fa 1 (.t 32)), []⟩,
    ⟨(some 34), (some (26, true)), .q (.ld none (.t 33)), []⟩,
    ⟨(some 35), (some (26, true)), .q (.mv (.t 0)), []⟩,
    ⟨(some 36), (some (26, true)), .q (.nc (.t 35)), []⟩,
    ⟨(some 37), (some (26, true)), .q (.fa 1 (.t 36)), []⟩,
    ⟨(some 38), (some (26, true)), .q (.ld none (.t 37)), []⟩,
    ⟨(some 39), (some (26, true)), .q (.mv (.t 5)), []⟩,
    ⟨(some 40), (some (26, true)), .q (.bin .add (.t 38) (.t 39)), []⟩,
    ⟨(some 41), (some (26, true)), .q (.sls (true, 0) (.t 30) (.t 34) (.t 40)), []⟩,
    ⟨(some 43), (some (26, true)), .q (.mv (.t 4)), []⟩,
    ⟨(some 42), (some (26, true)), .e (.call 59 [(.t 41)]), []⟩,
    ⟨(some 44), (some (26, true)), .q (.bin .eql (.t 42) (.t 43)), []⟩,
    ⟨(some 45), none, .q (.pick (.t 26) (.t 44) (.v (.bool false))), []⟩]
def c51_7 : ACode := .ops [
    ⟨(some 46), none, .q (.mv (.t 0)), []⟩,
    ⟨(some 47), none, .q (.mv (.t 4)), []⟩,
    ⟨(some 48), none, .q (.mv (.t 5)), []⟩,
    ⟨(some 49), none, .e (.call 39 [(.t 46), (.v (.int .i64 5)), (.t 47), (.t 48)]), []⟩]
def c51_8 : ACode := .ops [
    ⟨(some 2), none, .q (.mv (.v (.int .i64 0))), []⟩]
def c51_9 : ACode := .seq c51_8 .ret
def c51_10 : ACode := .seq c51_7 c51_9
def c51_11 : ACode := .cond (.t 45) c51_10 .skip
def c51_12 : ACode := .seq c51_6 c51_11
def c51_13 : ACode := .seq c51_5 c51_12
def c51_14 : ACode := .seq c51_4 c51_13
def c51_15 : ACode := .block 1 c51_14
def c51_16 : ACode := .ops [
    ⟨(some 50), none, .q (.bin .add (.t 8) (.v (.int .i64 1))), []⟩,
    ⟨(some 8), none, .q (.mv (.t 50)), []⟩]
def c51_17 : ACode := .seq c51_15 c51_16
def c51_18 : ACode := .seq c51_3 c51_17
def c51_19 : ACode := .seq c51_2 c51_18
def c51_20 : ACode := .loop c51_19
def c51_21 : ACode := .block 0 c51_20
def c51_22 : ACode := .seq c51_1 c51_21
def c51_23 : ACode := .ops [
    ⟨(some 2), none, .q (.mv (.v (.int .i64 10))), []⟩]
def c51_24 : ACode := .seq c51_23 .ret
def c51_25 : ACode := .seq c51_22 c51_24
def c51_26 : ACode := .seq c51_0 c51_25
@[go_sem] theorem c51_0_wp (P : Program) (Q : APost) (a : AFr) (σ : ASt) : c51_0.wp P Q a σ = ACode.wp P (.ops [
    ⟨(some 2), none, .q (.mv (.v (.int .i64 0))), []⟩]) Q a σ := id rfl
@[go_sem] theorem c51_1_wp (P : Program) (Q : APost) (a : AFr) (σ : ASt) : c51_1.wp P Q a σ = ACode.wp P (.ops [
    ⟨(some 6), none, .e (.call 65 []), []⟩,
    ⟨(some 7), none, .q (.len (.t 6)), []⟩,
    ⟨(some 8), none, .q (.mv (.v (.int .i64 0))), []⟩]) Q a σ := id rfl
@[go_sem] theorem c51_2_wp (P : Program) (Q : APost) (a : AFr) (σ : ASt) : c51_2.wp P Q a σ = ACode.wp P (.ops [
    ⟨(some 9), none, .q (.bin .lss (.t 8) (.t 7)), []⟩]) Q a σ := id rfl
@[go_sem] theorem c51_3_wp (P : Program) (Q : APost) (a : AFr) (σ : ASt) : c51_3.wp P Q a σ = ACode.wp P (.cond (.t 9) .skip (.exit 0)) Q a σ := id rfl
@[go_sem] theorem c51_4_wp (P : Program) (Q : APost) (a : AFr) (σ : ASt) : c51_4.wp P Q a σ = ACode.wp P (.ops [
    ⟨(some 10), none, .q (.ia 1 (.t 6) (.t 8)), []⟩,
    ⟨(some 11), none, .q (.ld none (.t 10)), []⟩,
    ⟨(some 4), none, .q (.mv (.t 11)), []⟩]) Q a σ := id rfl
@[go_sem] theorem c51_5_wp (P : Program) (Q : APost) (a : AFr) (σ : ASt) : c51_5.wp P Q a σ = ACode.wp P (.ops [
    ⟨(some 12), none, .q (.mv (.t 4)), []⟩,
    ⟨(some 13), none, .q (.lenS (.t 12)), []⟩,
    ⟨(some 5), none, .q (.mv (.t 13)), []⟩]) Q a σ := id rfl
@[go_sem] theorem c51_6_wp (P : Program) (Q : APost) (a : AFr) (σ : ASt) : c51_6.wp P Q a σ = ACode.wp P (.ops [
    ⟨(some 14), none, .q (.mv (.t 0)), []⟩,
    ⟨(some 15), none, .q (.nc (.t 14)), []⟩,
    ⟨(some 16), none, .q (.fa 1 (.t 15)), []⟩,
    ⟨(some 17), none, .q (.ld none (.t 16)), []⟩,
    ⟨(some 18), none, .q (.mv (.t 5)), []⟩,
    ⟨(some 19), none, .q (.bin .add (.t 17) (.t 18)), []⟩,
    ⟨(some 20), none, .q (.mv (.t 0)), []⟩,
    ⟨(some 21), none, .q (.nc (.t 20)), []⟩,
    ⟨(some 22), none, .q (.fa 0 (.t 21)), []⟩,
    ⟨(some 23), none, .q (.ld none (.t 22)), []⟩,
    ⟨(some 24), none, .q (.lenS (.t 23)), []⟩,
    ⟨(some 25), none, .q (.bin .leq (.t 19) (.t 24)), []⟩,
    ⟨(some 26), none, .q (.mv (.t 25)), []⟩,
    ⟨(some 27), (some (26, true)), .q (.mv (.t 0)), []⟩,
    ⟨(some 28), (some (26, true)), .q (.nc (.t 27)), []⟩,
    ⟨(some 29), (some (26, true)), .q (.fa 0 (.t 28)), []⟩,
    ⟨(some 30), (some (26, true)), .q (.ld none (.t 29)), []⟩,
    ⟨(some 31), (some (26, true)), .q (.mv (.t 0)), []⟩,
    ⟨(some 32), (some (26, true)), .q (.nc (.t 31)), []⟩,
    ⟨(some 33), (some (26, true)), .q (.fa 1 (.t 32)), []⟩,
    ⟨(some 34), (some (26, true)), .q (.ld none (.t 33)), []⟩,
    ⟨(some 35), (some (26, true)), .q (.mv (.t 0)), []⟩,
    ⟨(some 36), (some (26, true)), .q (.nc (.t 35)), []⟩,
    ⟨(some 37), (some (26, true)), .q (.fa 1 (.t 36)), []⟩,
    ⟨(some 38), (some (26, true)), .q (.ld none (.t 37)), []⟩,
    ⟨(some 39), (some (26, true)), .q (.mv (.t 5)), []⟩,
    ⟨(some 40), (some (26, true)), .q (.bin .add (.t 38) (.t 39)), []⟩,
    ⟨(some 41), (some (26, true)), .q (.sls (true, 0) (.t 30) (.t 34) (.t 40)), []⟩,
    ⟨(some 43), (some (26, true)), .q (.mv (.t 4)), []⟩,
    ⟨(some 42), (some (26, true)), .e (.call 59 [(.t 41)]), []⟩,
    ⟨(some 44), (some (26, true)), .q (.bin .eql (.t 42) (.t 43)), []⟩,
    ⟨(some 45), none, .q (.pick (.t 26) (.t 44) (.v (.bool false))), []⟩]) Q a σ := id rfl
@[go_sem] theorem c51_7_wp (P : Program) (Q : APost) (a : AFr) (σ : ASt) : c51_7.wp P Q a σ = ACode.wp P (.ops [
    ⟨(some 46), none, .q (.mv (.t 0)), []⟩,
    ⟨(some 47), none, .q (.mv (.t 4)), []⟩,
    ⟨(some 48), none, .q (.mv (.t 5)), []⟩,
    ⟨(some 49), none, .e (.call 39 [(.t 46), (.v (.int .i64 5)), (.t 47), (.t 48)]), []⟩]) Q a σ := id rfl
@[go_sem] theorem c51_8_wp (P : Program) (Q : APost) (a : AFr) (σ : ASt) : c51_8.wp P Q a σ = ACode.wp P (.ops [
    ⟨(some 2), none, .q (.mv (.v (.int .i64 0))), []⟩]) Q a σ := id rfl
@[go_sem] theorem c51_9_wp (P : Program) (Q : APost) (a : AFr) (σ : ASt) : c51_9.wp P Q a σ = ACode.wp P (.seq c51_8 .ret) Q a σ := id rfl
@[go_sem] theorem c51_10_wp (P : Program) (Q : APost) (a : AFr) (σ : ASt) : c51_10.wp P Q a σ = ACode.wp P (.seq c51_7 c51_9) Q a σ := id rfl
@[go_sem] theorem c51_11_wp (P : Program) (Q : APost) (a : AFr) (σ : ASt) : c51_11.wp P Q a σ = ACode.wp P (.cond (.t 45) c51_10 .skip) Q a σ := id rfl
@[go_sem] theorem c51_12_wp (P : Program) (Q : APost) (a : AFr) (σ : ASt) : c51_12.wp P Q a σ = ACode.wp P (.seq c51_6 c51_11) Q a σ := id rfl
@[go_sem] theorem c51_13_wp (P : Program) (Q : APost) (a : AFr) (σ : ASt) : c51_13.wp P Q a σ = ACode.wp P (.seq c51_5 c51_12) Q a σ := id rfl
@[go_sem] theorem c51_14_wp (P : Program) (Q : APost) (a : AFr) (σ : ASt) : c51_14.wp P Q a σ = ACode.wp P (.seq c51_4 c51_13) Q a σ := id rfl
@[go_sem] theorem c51_15_wp (P : Program) (Q : APost) (a : AFr) (σ : ASt) : c51_15.wp P Q a σ = ACode.wp P (.block 1 c51_14) Q a σ := id rfl
@[go_sem] theorem c51_16_wp (P : Program) (Q : APost) (a : AFr) (σ : ASt) : c51_16.wp P Q a σ = ACode.wp P (.ops [
    ⟨(some 50), none, .q (.bin .add (.t 8) (.v (.int .i64 1))), []⟩,
    ⟨(some 8), none, .q (.mv (.t 50)), []⟩]) Q a σ := id rfl
@[go_sem] theorem c51_17_wp (P : Program) (Q : APost) (a : AFr) (σ : ASt) : c51_17.wp P Q a σ = ACode.wp P (.seq c51_15 c51_16) Q a σ := id rfl
@[go_sem] theorem c51_18_wp (P : Program) (Q : APost) (a : AFr) (σ : ASt) : c51_18.wp P Q a σ = ACode.wp P (.seq c51_3 c51_17) Q a σ := id rfl
@[go_sem] theorem c51_19_wp (P : Program) (Q : APost) (a : AFr) (σ : ASt) : c51_19.wp P Q a σ = ACode.wp P (.seq c51_2 c51_18) Q a σ := id rfl
@[go_sem] theorem c51_20_wp (P : Program) (Q : APost) (a : AFr) (σ : ASt) : c51_20.wp P Q a σ = ACode.wp P (.loop c51_19) Q a σ := id rfl
@[go_sem] theorem c51_21_wp (P : Program) (Q : APost) (a : AFr) (σ : ASt) : c51_21.wp P Q a σ = ACode.wp P (.block 0 c51_20) Q a σ := id rfl
@[go_sem] theorem c51_22_wp (P : Program) (Q : APost) (a : AFr) (σ : ASt) : c51_22.wp P Q a σ = ACode.wp P (.seq c51_1 c51_21) Q a σ := id rfl
@[go_sem] theorem c51_23_wp (P : Program) (Q : APost) (a : AFr) (σ : ASt) : c51_23.wp P Q a σ = ACode.wp P (.ops [
    ⟨(some 2), none, .q (.mv (.v (.int .i64 10))), []⟩]) Q a σ := id rfl
@[go_sem] theorem c51_24_wp (P : Program) (Q : APost) (a : AFr) (σ : ASt) : c51_24.wp P Q a σ = ACode.wp P (.seq c51_23 .ret) Q a σ := id rfl
@[go_sem] theorem c51_25_wp (P : Program) (Q : APost) (a : AFr) (σ : ASt) : c51_25.wp P Q a σ = ACode.wp P (.seq c51_22 c51_24) Q a σ := id rfl
@[go_sem] theorem c51_26_wp (P : Program) (Q : APost) (a : AFr) (σ : ASt) : c51_26.wp P Q a σ = ACode.wp P (.seq c51_0 c51_25) Q a σ := id rfl
def c51 : AFn := ⟨51, [.t 2], c51_26⟩
set_option maxRecDepth 100000 in
theorem c51_ok : compF Tryd.prog Tryd.f51 = some c51 := by kernel_rfl
theorem a51 {args : List AV} {σ : ASt} {R : AV → ASt → Prop} (hl : args.length ≤ 51) (h : c51_26.wp Tryd.prog (RetQ [.t 2] R) (init args) σ) : ACalls Tryd.prog 51 args σ R := acalls_of Tryd.func51 c51_ok hl h

/-! 52: (*tabular/token.lexer).op -/
def c52_0 : ACode := .ops [
    ⟨(some 6), none, .q (.mv (.v (.int .i64 0))), []⟩]
def c52_1 : ACode := .ops [
    ⟨(some 10), none, .q (.mv (.t 1)), []⟩,
    ⟨(some 11), none, .e (.call 66 [(.t 10)]), []⟩,
    ⟨(some 7), none, .q (.mv (.t 11)), []⟩]
def c52_2 : ACode := .ops [
    ⟨(some 12), none, .q (.mv (.t 7)), []⟩,
    ⟨(some 13), none, .q (.bin .neq (.t 12) (.v (.str []))), []⟩]
def c52_3 : ACode := .ops [
    ⟨(some 14), none, .q (.mv (.t 0)), []⟩,
    ⟨(some 15), none, .q (.mv (.t 7)), []⟩,
    ⟨(some 16), none, .q (.mv (.t 2)), []⟩,
    ⟨(some 17), none, .e (.call 39 [(.t 14), (.v (.int .i64 6)), (.t 15), (.t 16)]), []⟩]
def c52_4 : ACode := .ops [
    ⟨(some 6), none, .q (.mv (.v (.int .i64 0))), []⟩]
def c52_5 : ACode := .seq c52_4 .ret
def c52_6 : ACode := .seq c52_3 c52_5
def c52_7 : ACode := .cond (.t 13) c52_6 .skip
def c52_8 : ACode := .seq c52_2 c52_7
def c52_9 : ACode := .seq c52_1 c52_8
def c52_10 : ACode := .ops [
    ⟨(some 18), none, .q (.bsl 1 [(.v (.str [60, 61])), (.v (.str [62, 61])), (.v (.str [60, 62]))]), []⟩,
    ⟨(some 19), none, .q (.len (.t 18)), []⟩,
    ⟨(some 20), none, .q (.mv (.v (.int .i64 0))), []⟩]
def c52_11 : ACode := .ops [
    ⟨(some 21), none, .q (.bin .lss (.t 20) (.t 19)), []⟩]
def c52_12 : ACode := .cond (.t 21) .skip (.exit 0)
def c52_13 : ACode := .ops [
    ⟨(some 22), none, .q (.ia 1 (.t 18) (.t 20)), []⟩,
    ⟨(some 23), none, .q (.ld none (.t 22)), []⟩,
    ⟨(some 9), none, .q (.mv (.t 23)), []⟩]
def c52_14 : ACode := .ops [
    ⟨(some 24), none, .q (.mv (.t 0)), []⟩,
    ⟨(some 25), none, .q (.nc (.t 24)), []⟩,
    ⟨(some 26), none, .q (.fa 0 (.t 25)), []⟩,
    ⟨(some 27), none, .q (.ld none (.t 26)), []⟩,
    ⟨(some 28), none, .q (.mv (.t 0)), []⟩,
    ⟨(some 29), none, .q (.nc (.t 28)), []⟩,
    ⟨(some 30), none, .q (.fa 1 (.t 29)), []⟩,
    ⟨(some 31), none, .q (.ld none (.t 30)), []⟩,
    ⟨(some 32), none, .q (.slfrom (true, 0) (.t 27) (.t 31)), []⟩,
    ⟨(some 33), none, .q (.mv (.t 9)), []⟩,
    ⟨(some 34), none, .e (.call 67 [(.t 32), (.t 33)]), []⟩]
def c52_15 : ACode := .ops [
    ⟨(some 35), none, .q (.mv (.t 0)), []⟩,
    ⟨(some 36), none, .q (.mv (.t 9)), []⟩,
    ⟨(some 37), none, .e (.call 39 [(.t 35), (.v (.int .i64 6)), (.t 36), (.v (.int .i64 2))]), []⟩]
def c52_16 : ACode := .ops [
    ⟨(some 6), none, .q (.mv (.v (.int .i64 0))), []⟩]
def c52_17 : ACode := .seq c52_16 .ret
def c52_18 : ACode := .seq c52_15 c52_17
def c52_19 : ACode := .cond (.t 34) c52_18 .skip
def c52_20 : ACode := .seq c52_14 c52_19
def c52_21 : ACode := .seq c52_13 c52_20
def c52_22 : ACode := .block 1 c52_21
def c52_23 : ACode := .ops [
    ⟨(some 38), none, .q (.bin .add (.t 20) (.v (.int .i64 1))), []⟩,
    ⟨(some 20), none, .q (.mv (.t 38)), []⟩]
def c52_24 : ACode := .seq c52_22 c52_23
def c52_25 : ACode := .seq c52_12 c52_24
def c52_26 : ACode := .seq c52_11 c52_25
def c52_27 : ACode := .loop c52_26
def c52_28 : ACode := .block 0 c52_27
def c52_29 : ACode := .seq c52_10 c52_28
def c52_30 : ACode := .ops [
    ⟨(some 39), none, .q (.mv (.t 0)), []⟩,
    ⟨(some 40), none, .q (.nc (.t 39)), []⟩,
    ⟨(some 41), none, .q (.fa 0 (.t 40)), []⟩,
    ⟨(some 42), none, .q (.ld none (.t 41)), []⟩,
    ⟨(some 43), none, .q (.mv (.t 0)), []⟩,
    ⟨(some 44), none, .q (.nc (.t 43)), []⟩,
    ⟨(some 45), none, .q (.fa 1 (.t 44)), []⟩,
    ⟨(some 46), none, .q (.ld none (.t 45)), []⟩,
    ⟨(some 47), none, .q (.idx (.t 42) (.t 46)), []⟩,
    ⟨(some 48), none, .q (.bsl 1 [(.t 47)]), []⟩,
    ⟨(some 49), none, .q (.b2s (.t 48)), []⟩,
    ⟨(some 50), none, .e (.call 68 [(.v (.str [43, 45, 42, 47, 94, 38, 61, 60, 62, 37, 40, 41, 58, 44])), (.t 49)]), []⟩,
    ⟨(some 51), none, .q (.un .not (.t 50)), []⟩]
def c52_31 : ACode := .ops [
    ⟨(some 6), none, .q (.mv (.v (.int .i64 10))), []⟩]
def c52_32 : ACode := .seq c52_31 .ret
def c52_33 : ACode := .cond (.t 51) c52_32 .skip
def c52_34 : ACode := .seq c52_30 c52_33
def c52_35 : ACode := .ops [
    ⟨(some 52), none, .q (.mv (.t 0)), []⟩,
    ⟨(some 53), none, .q (.mv (.t 0)), []⟩,
    ⟨(some 54), none, .q (.nc (.t 53)), []⟩,
    ⟨(some 55), none, .q (.fa 0 (.t 54)), []⟩,
    ⟨(some 56), none, .q (.ld none (.t 55)), []⟩,
    ⟨(some 57), none, .q (.mv (.t 0)), []⟩,
    ⟨(some 58), none, .q (.nc (.t 57)), []⟩,
    ⟨(some 59), none, .q (.fa 1 (.t 58)), []⟩,
    ⟨(some 60), none, .q (.ld none (.t 59)), []⟩,
    ⟨(some 61), none, .q (.mv (.t 0)), []⟩,
    ⟨(some 62), none, .q (.nc (.t 61)), []⟩,
    ⟨(some 63), none, .q (.fa 1 (.t 62)), []⟩,
    ⟨(some 64), none, .q (.ld none (.t 63)), []⟩,
    ⟨(some 65), none, .q (.bin .add (.t 64) (.v (.int .i64 1))), []⟩,
    ⟨(some 66), none, .q (.sls (true, 0) (.t 56) (.t 60) (.t 65)), []⟩,
    ⟨(some 67), none, .e (.call 39 [(.t 52), (.v (.int .i64 6)), (.t 66), (.v (.int .i64 1))]), []⟩]
def c52_36 : ACode := .ops [
    ⟨(some 6), none, .q (.mv (.v (.int .i64 0))), []⟩]
def c52_37 : ACode := .seq c52_36 .ret
def c52_38 : ACode := .seq c52_35 c52_37
def c52_39 : ACode := .seq c52_34 c52_38
def c52_40 : ACode := .seq c52_29 c52_39
def c52_41 : ACode := .seq c52_9 c52_40
def c52_42 : ACode := .seq c52_0 c52_41
@[go_sem] theorem c52_0_wp (P : Program) (Q : APost) (a : AFr) (σ : ASt) : c52_0.wp P Q a σ = ACode.wp P (.ops [
    ⟨(some 6), none, .q (.mv (.v (.int .i64 0))), []⟩]) Q a σ := id rfl
@[go_sem] theorem c52_1_wp (P : Program) (Q : APost) (a : AFr) (σ : ASt) : c52_1.wp P Q a σ = ACode.wp P (.ops [
    ⟨(some 10), none, .q (.mv (.t 1)), []⟩,
    ⟨(some 11), none, .e (.call 66 [(.t 10)]), []⟩,
    ⟨(some 7), none, .q (.mv (.t 11)), []⟩]) Q a σ := id rfl
@[go_sem] theorem c52_2_wp (P : Program) (Q : APost) (a : AFr) (σ : ASt) : c52_2.wp P Q a σ = ACode.wp P (.ops [
    ⟨(some 12), none, .q (.mv (.t 7)), []⟩,
    ⟨(some 13), none, .q (.bin .neq (.t 12) (.v (.str []))), []⟩]) Q a σ := id rfl
@[go_sem] theorem c52_3_wp (P : Program) (Q : APost) (a : AFr) (σ : ASt) : c52_3.wp P Q a σ = ACode.wp P (.ops [
    ⟨(some 14), none, .q (.mv (.t 0)), []⟩,
    ⟨(some 15), none, .q (.mv (.t 7)), []⟩,
    ⟨(some 16), none, .q (.mv (.t 2)), []⟩,
    ⟨(some 17), none, .e (.call 39 [(.t 14), (.v (.int .i64 6)), (.t 15), (.t 16)]), []⟩]) Q a σ := id rfl
@[go_sem] theorem c52_4_wp (P : Program) (Q : APost) (a : AFr) (σ : ASt) : c52_4.wp P Q a σ = ACode.wp P (.ops [
    ⟨(some 6), none, .q (.mv (.v (.int .i64 0))), []⟩]) Q a σ := id rfl
@[go_sem] theorem c52_5_wp (P : Program) (Q : APost) (a : AFr) (σ : ASt) : c52_5.wp P Q a σ = ACode.wp P (.seq c52_4 .ret) Q a σ := id rfl
@[go_sem] theorem c52_6_wp (P : Program) (Q : APost) (a : AFr) (σ : ASt) : c52_6.wp P Q a σ = ACode.wp P (.seq c52_3 c52_5) Q a σ := id rfl
@[go_sem] theorem c52_7_wp (P : Program) (Q : APost) (a : AFr) (σ : ASt) : c52_7.wp P Q a σ = ACode.wp P (.cond (.t 13) c52_6 .skip) Q a σ := id rfl
@[go_sem] theorem c52_8_wp (P : Program) (Q : APost) (a : AFr) (σ : ASt) : c52_8.wp P Q a σ = ACode.wp P (.seq c52_2 c52_7) Q a σ := id rfl
@[go_sem] theorem c52_9_wp (P : Program) (Q : APost) (a : AFr) (σ : ASt) : c52_9.wp P Q a σ = ACode.wp P (.seq c52_1 c52_8) Q a σ := id rfl
@[go_sem] theorem c52_10_wp (P : Program) (Q : APost) (a : AFr) (σ : ASt) : c52_10.wp P Q a σ = ACode.wp P (.ops [
    ⟨(some 18), none, .q (.bsl 1 [(.v (.str [60, 61])), (.v (.str [62, 61])), (.v (.str [60, 62]))]), []⟩,
    ⟨(some 19), none, .q (.len (.t 18)), []⟩,
    ⟨(some 20), none, .q (.mv (.v (.int .i64 0))), []⟩]) Q a σ := id rfl
@[go_sem] theorem c52_11_wp (P : Program) (Q : APost) (a : AFr) (σ : ASt) : c52_11.wp P Q a σ = ACode.wp P (.ops [
    ⟨(some 21), none, .q (.bin .lss (.t 20) (.t 19)), []⟩]) Q a σ := id rfl
@[go_sem] theorem c52_12_wp (P : Program) (Q : APost) (a : AFr) (σ : ASt) : c52_12.wp P Q a σ = ACode.wp P (.cond (.t 21) .skip (.exit 0)) Q a σ := id rfl
@[go_sem] theorem c52_13_wp (P : Program) (Q : APost) (a : AFr) (σ : ASt) : c52_13.wp P Q a σ = ACode.wp P (.ops [
    ⟨(some 22), none, .q (.ia 1 (.t 18) (.t 20)), []⟩,
    ⟨(some 23), none, .q (.ld none (.t 22)), []⟩,
    ⟨(some 9), none, .q (.mv (.t 23)), []⟩]) Q a σ := id rfl
@[go_sem] theorem c52_14_wp (P : Program) (Q : APost) (a : AFr) (σ : ASt) : c52_14.wp P Q a σ = ACode.wp P (.ops [
    ⟨(some 24), none, .q (.mv (.t 0)), []⟩,
    ⟨(some 25), none, .q (.nc (.t 24)), []⟩,
    ⟨(some 26), none, .q (.fa 0 (.t 25)), []⟩,
    ⟨(some 27), none, .q (.ld none (.t 26)), []⟩,
    ⟨(some 28), none, .q (.mv (.t 0)), []⟩,
    ⟨(some 29), none, .q (.nc (.t 28)), []⟩,
    ⟨(some 30), none, .q (.fa 1 (.t 29)), []⟩,
    ⟨(some 31), none, .q (.ld none (.t 30)), []⟩,
    ⟨(some 32), none, .q (.slfrom (true, 0) (.t 27) (.t 31)), []⟩,
    ⟨(some 33), none, .q (.mv (.t 9)), []⟩,
    ⟨(some 34), none, .e (.call 67 [(.t 32), (.t 33)]), []⟩]) Q a σ := id rfl
@[go_sem] theorem c52_15_wp (P : Program) (Q : APost) (a : AFr) (σ : ASt) : c52_15.wp P Q a σ = ACode.wp P (.ops [
    ⟨(some 35), none, .q (.mv (.t 0)), []⟩,
    ⟨(some 36), none, .q (.mv (.t 9)), []⟩,
    ⟨(some 37), none, .e (.call 39 [(.t 35), (.v (.int .i64 6)), (.t 36), (.v (.int .i64 2))]), []⟩]) Q a σ := id rfl
@[go_sem] theorem c52_16_wp (P : Program) (Q : APost) (a : AFr) (σ : ASt) : c52_16.wp P Q a σ = ACode.wp P (.ops [
    ⟨(some 6), none, .q (.mv (.v (.int .i64 0))), []⟩]) Q a σ := id rfl
@[go_sem] theorem c52_17_wp (P : Program) (Q : APost) (a : AFr) (σ : ASt) : c52_17.wp P Q a σ = ACode.wp P (.seq c52_16 .ret) Q a σ := id rfl
@[go_sem] theorem c52_18_wp (P : Program) (Q : APost) (a : AFr) (σ : ASt) : c52_18.wp P Q a σ = ACode.wp P (.seq c52_15 c52_17) Q a σ := id rfl
@[go_sem] theorem c52_19_wp (P : Program) (Q : APost) (a : AFr) (σ : ASt) : c52_19.wp P Q a σ = ACode.wp P (.cond (.t 34) c52_18 .skip) Q a σ := id rfl
@[go_sem] theorem c52_20_wp (P : Program) (Q : APost) (a : AFr) (σ : ASt) : c52_20.wp P Q a σ = ACode.wp P (.seq c52_14 c52_19) Q a σ := id rfl
@[go_sem] theorem c52_21_wp (P : Program) (Q : APost) (a : AFr) (σ : ASt) : c52_21.wp P Q a σ = ACode.wp P (.seq c52_13 c52_20) Q a σ := id rfl
@[go_sem] theorem c52_22_wp (P : Program) (Q : APost) (a : AFr) (σ : ASt) : c52_22.wp P Q a σ = ACode.wp P (.block 1 c52_21) Q a σ := id rfl
@[go_sem] theorem c52_23_wp (P : Program) (Q : APost) (a : AFr) (σ : ASt) : c52_23.wp P Q a σ = ACode.wp P (.ops [
    ⟨(some 38), none, .q (.bin .add (.t 20) (.v (.int .i64 1))), []⟩,
    ⟨(some 20), none, .q (.mv (.t 38)), []⟩]) Q a σ := id rfl
@[go_sem] theorem c52_24_wp (P : Program) (Q : APost) (a : AFr) (σ : ASt) : c52_24.wp P Q a σ = ACode.wp P (.seq c52_22 c52_23) Q a σ := id rfl
@[go_sem] theorem c52_25_wp (P : Program) (Q : APost) (a : AFr) (σ : ASt) : c52_25.wp P Q a σ = ACode.wp P (.seq c52_12 c52_24) Q a σ := id rfl
@[go_sem] theorem c52_26_wp (P : Program) (Q : APost) (a : AFr) (σ : ASt) : c52_26.wp P Q a σ = ACode.wp P (.seq c52_11 c52_25) Q a σ := id rfl
@[go_sem] theorem c52_27_wp (P : Program) (Q : APost) (a : AFr) (σ : ASt) : c52_27.wp P Q a σ = ACode.wp P (.loop c52_26) Q a σ := id rfl
@[go_sem] theorem c52_28_wp (P : Program) (Q : APost) (a : AFr) (σ : ASt) : c52_28.wp P Q a σ = ACode.wp P (.block 0 c52_27) Q a σ := id rfl
@[go_sem] theorem c52_29_wp (P : Program) (Q : APost) (a : AFr) (σ : ASt) : c52_29.wp P Q a σ = ACode.wp P (.seq c52_10 c52_28) Q a σ := id rfl
@[go_sem] theorem c52_30_wp (P : Program) (Q : APost) (a : AFr) (σ : ASt) : c52_30.wp P Q a σ = ACode.wp P (.ops [
    ⟨(some 39), none, .q (.mv (.t 0)), []⟩,
    ⟨(some 40), none, .q (.nc (.t 39)), []⟩,
    ⟨(some 41), none, .q (.fa 0 (.t 40)), []⟩,
    ⟨(some 42), none, .q (.ld none (.t 41)), []⟩,
    ⟨(some 43), none, .q (.mv (.t 0)), []⟩,
    ⟨(some 44), none, .q (.nc (.t 43)), []⟩,
    ⟨(some 45), none, .q (.fa 1 (.t 44)), []⟩,
    ⟨(some 46), none, .q (.ld none (.t 45)), []⟩,
    ⟨(some 47), none, .q (.idx (.t 42) (.t 46)), []⟩,
    ⟨(some 48), none, .q (.bsl 1 [(.t 47)]), []⟩,
    ⟨(some 49), none, .q (.b2s (.t 48)), []⟩,
    ⟨(some 50), none, .e (.call 68 [(.v (.str [43, 45, 42, 47, 94, 38, 61, 60, 62, 37, 40, 41, 58, 44])), (.t 49)]), []⟩,
    ⟨(some 51), none, .q (.un .not (.t 50)), []⟩]) Q a σ := id rfl
@[go_sem] theorem c52_31_wp (P : Program) (Q : APost) (a : AFr) (σ : ASt) : c52_31.wp P Q a σ = ACode.wp P (.ops [
    ⟨(some 6), none, .q (.mv (.v (.int .i64 10))), []⟩]) Q a σ := id rfl
@[go_sem] theorem c52_32_wp (P : Program) (Q : APost) (a : AFr) (σ : ASt) : c52_32.wp P Q a σ = ACode.wp P (.seq c52_31 .ret) Q a σ := id rfl
@[go_sem] theorem c52_33_wp (P : Program) (Q : APost) (a : AFr) (σ : ASt) : c52_33.wp P Q a σ = ACode.wp P (.cond (.t 51) c52_32 .skip) Q a σ := id rfl
@[go_sem] theorem c52_34_wp (P : Program) (Q : APost) (a : AFr) (σ : ASt) : c52_34.wp P Q a σ = ACode.wp P (.seq c52_30 c52_33) Q a σ := id rfl
@[go_sem] theorem c52_35_wp (P : Program) (Q : APost) (a : AFr) (σ : ASt) : c52_35.wp P Q a σ = ACode.wp P (.ops [
    ⟨(some 52), none, .q (.mv (.t 0)), []⟩,
    ⟨(some 53), none, .q (.mv (.t 0)), []⟩,
    ⟨(some 54), none, .q (.nc (.t 53)), []⟩,
    ⟨(some 55), none, .q (.fa 0 (.t 54)), []⟩,
    ⟨(some 56), none, .q (.ld none (.t 55)), []⟩,
    ⟨(some 57), none, .q (.mv (.t 0)), []⟩,
    ⟨(some 58), none, .q (.nc (.t 57)), []⟩,
    ⟨(some 59), none, .q (.fa 1 (.t 58)), []⟩,
    ⟨(some 60), none, .q (.ld none (.t 59)), []⟩,
    ⟨(some 61), none, .q (.mv (.t 0)), []⟩,
    ⟨(some 62), none, .q (.nc (.t 61)), []⟩,
    ⟨(some 63), none, .q (.fa 1 (.t 62)), []⟩,
    ⟨(some 64), none, .q (.ld none (.t 63)), []⟩,
    ⟨(some 65), none, .q (.bin .add (.t 64) (.v (.int .i64 1))), []⟩,
    ⟨(some 66), none, .q (.sls (true, 0) (.t 56) (.t 60) (.t 65)), []⟩,
    ⟨(some 67), none, .e (.call 39 [(.t 52), (.v (.int .i64 6)), (.t 66), (.v (.int .i64 1))]), []⟩]) Q a σ := id rfl
@[go_sem] theorem c52_36_wp (P : Program) (Q : APost) (a : AFr) (σ : ASt) : c52_36.wp P Q a σ = ACode.wp P (.ops [
    ⟨(some 6), none, .q (.mv (.v (.int .i64 0))), []⟩]) Q a σ := id rfl
@[go_sem] theorem c52_37_wp (P : Program) (Q : APost) (a : AFr) (σ : ASt) : c52_37.wp P Q a σ = ACode.wp P (.seq c52_36 .ret) Q a σ := id rfl
@[go_sem] theorem c52_38_wp (P : Program) (Q : APost) (a : AFr) (σ : ASt) : c52_38.wp P Q a σ = ACode.wp P (.seq c52_35 c52_37) Q a σ := id rfl
@[go_sem] theorem c52_39_wp (P : Program) (Q : APost) (a : AFr) (σ : ASt) : c52_39.wp P Q a σ = ACode.wp P (.seq c52_34 c52_38) Q a σ := id rfl
@[go_sem] theorem c52_40_wp (P : Program) (Q : APost) (a : AFr) (σ : ASt) : c52_40.wp P Q a σ = ACode.wp P (.seq c52_29 c52_39) Q a σ := id rfl
@[go_sem] theorem c52_41_wp (P : Program) (Q : APost) (a : AFr) (σ : ASt) : c52_41.wp P Q a σ = ACode.wp P (.seq c52_9 c52_40) Q a σ := id rfl
@[go_sem] theorem c52_42_wp (P : Program) (Q : APost) (a : AFr) (σ : ASt) : c52_42.wp P Q a σ = ACode.wp P (.seq c52_0 c52_41) Q a σ := id rfl
def c52 : AFn := ⟨68, [.t 6], c52_42⟩
set_option maxRecDepth 100000 in
theorem c52_ok : compF Tryd.prog Tryd.f52 = some c52 := by kernel_rfl
theorem a52 {args : List AV} {σ : ASt} {R : AV → ASt → Prop} (hl : args.length ≤ 68) (h : c52_42.wp Tryd.prog (RetQ [.t 6] R) (init args) σ) : ACalls Tryd.prog 52 args σ R := acalls_of Tryd.func52 c52_ok hl h

/-! 57: tabular/token.isNum -/
def c57_0 : ACode := .ops [
    ⟨(some 2), none, .q (.mv (.v (.bool false))), []⟩]
def c57_1 : ACode := .ops [
    ⟨(some 9), none, .q (.mv (.t 0)), []⟩,
    ⟨(some 10), none, .e (.call 77 [(.t 9), (.v (.str [46]))]), []⟩,
    ⟨(some 8), none, .q (.mv (.t 10)), []⟩,
    ⟨(some 11), none, .q (.ext 0 (.t 8)), []⟩,
    ⟨(some 12), none, .q (.ext 1 (.t 8)), []⟩,
    ⟨(some 13), none, .q (.ext 2 (.t 8)), []⟩,
    ⟨(some 3), none, .q (.mv (.t 11)), []⟩,
    ⟨(some 4), none, .q (.mv (.t 12)), []⟩,
    ⟨(some 5), none, .q (.mv (.t 13)), []⟩]
def c57_2 : ACode := .ops [
    ⟨(some 14), none, .q (.mv (.t 3)), []⟩,
    ⟨(some 15), none, .q (.bin .eql (.t 14) (.v (.str []))), []⟩,
    ⟨(some 16), none, .q (.mv (.t 15)), []⟩,
    ⟨(some 17), (some (16, false)), .q (.mv (.t 5)), []⟩,
    ⟨(some 18), (some (16, false)), .q (.mv (.t 17)), []⟩,
    ⟨(some 19), (some (18, true)), .q (.mv (.t 4)), []⟩,
    ⟨(some 20), (some (18, true)), .q (.bin .eql (.t 19) (.v (.str []))), []⟩,
    ⟨(some 21), (some (18, true)), .q (.mv (.t 20)), []⟩,
    ⟨(some 22), (some (21, false)), .q (.mv (.t 4)), []⟩,
    ⟨(some 23), (some (21, false)), .q (.lenS (.t 22)), []⟩,
    ⟨(some 24), (some (21, false)), .q (.bin .gtr (.t 23) (.v (.int .i64 4))), []⟩,
    ⟨(some 25), (some (18, true)), .q (.pick (.t 21) (.v (.bool true)) (.t 24)), []⟩,
    ⟨(some 26), (some (16, false)), .q (.pick (.t 18) (.t 25) (.v (.bool false))), []⟩,
    ⟨(some 27), none, .q (.pick (.t 16) (.v (.bool true)) (.t 26)), []⟩]
def c57_3 : ACode := .ops [
    ⟨(some 2), none, .q (.mv (.v (.bool false))), []⟩]
def c57_4 : ACode := .seq c57_3 .ret
def c57_5 : ACode := .cond (.t 27) c57_4 .skip
def c57_6 : ACode := .seq c57_2 c57_5
def c57_7 : ACode := .ops [
    ⟨(some 28), none, .q (.mv (.t 3)), []⟩,
    ⟨(some 29), none, .q (.mv (.t 4)), []⟩,
    ⟨(some 30), none, .q (.bin .add (.t 28) (.t 29)), []⟩,
    ⟨(some 31), none, .e (.s2b (.t 30)), []⟩,
    ⟨(some 32), none, .q (.len (.t 31)), []⟩,
    ⟨(some 33), none, .q (.mv (.v (.int .i64 0))), []⟩]
def c57_8 : ACode := .ops [
    ⟨(some 34), none, .q (.bin .lss (.t 33) (.t 32)), []⟩]
def c57_9 : ACode := .cond (.t 34) .skip (.exit 0)
def c57_10 : ACode := .ops [
    ⟨(some 35), none, .q (.ia 1 (.t 31) (.t 33)), []⟩,
    ⟨(some 36), none, .q (.ld none (.t 35)), []⟩,
    ⟨(some 7), none, .q (.mv (.t 36)), []⟩]
def c57_11 : ACode := .ops [
    ⟨(some 37), none, .q (.mv (.t 7)), []⟩,
    ⟨(some 38), none, .e (.call 78 [(.t 37)]), []⟩,
    ⟨(some 39), none, .q (.un .not (.t 38)), []⟩]
def c57_12 : ACode := .ops [
    ⟨(some 2), none, .q (.mv (.v (.bool false))), []⟩]
def c57_13 : ACode := .seq c57_12 .ret
def c57_14 : ACode := .cond (.t 39) c57_13 .skip
def c57_15 : ACode := .seq c57_11 c57_14
def c57_16 : ACode := .seq c57_10 c57_15
def c57_17 : ACode := .block 1 c57_16
def c57_18 : ACode := .ops [
    ⟨(some 40), none, .q (.bin .add (.t 33) (.v (.int .i64 1))), []⟩,
    ⟨(some 33), none, .q (.mv (.t 40)), []⟩]
def c57_19 : ACode := .seq c57_17 c57_18
def c57_20 : ACode := .seq c57_9 c57_19
def c57_21 : ACode := .seq c57_8 c57_20
def c57_22 : ACode := .loop c57_21
def c57_23 : ACode := .block 0 c57_22
def c57_24 : ACode := .seq c57_7 c57_23
def c57_25 : ACode := .ops [
    ⟨(some 2), none, .q (.mv (.v (.bool true))), []⟩]
def c57_26 : ACode := .seq c57_25 .ret
def c57_27 : ACode := .seq c57_24 c57_26
def c57_28 : ACode := .seq c57_6 c57_27
def c57_29 : ACode := .seq c57_1 c57_28
def c57_30 : ACode := .seq c57_0 c57_29
@[go_sem] theorem c57_0_wp (P : Program) (Q : APost) (a : AFr) (σ : ASt) : c57_0.wp P Q a σ = ACode.wp P (.ops [
    ⟨(some 2), none, .q (.mv (.v (.bool false))), []⟩]) Q a σ := id rfl
@[go_sem] theorem c57_1_wp (P : Program) (Q : APost) (a : AFr) (σ : ASt) : c57_1.wp P Q a σ = ACode.wp P (.ops [
    ⟨(some 9), none, .q (.mv (.t 0)), []⟩,
    ⟨(some 10), none, .e (.call 77 [(.t 9), (.v (.str [46]))]), []⟩,
    ⟨(some 8), none, .q (.mv (.t 10)), []⟩,
    ⟨(some 11), none, .q (.ext 0 (.t 8)), []⟩,
    ⟨(some 12), none, .q (.ext 1 (.t 8)), []⟩,
    ⟨(some 13), none, .q (.ext 2 (.t 8)), []⟩,
    ⟨(some 3), none, .q (.mv (.t 11)), []⟩,
    ⟨(some 4), none, .q (.mv (.t 12)), []⟩,
    ⟨(some 5), none, .q (.mv (.t 13)), []⟩]) Q a σ := id rfl
@[go_sem] theorem c57_2_wp (P : Program) (Q : APost) (a : AFr) (σ : ASt) : c57_2.wp P Q a σ = ACode.wp P (.ops [
    ⟨(some 14), none, .q (.mv (.t 3)), []⟩,
    ⟨(some 15), none, .q (.bin .eql (.t 14) (.v (.str []))), []⟩,
    ⟨(some 16), none, .q (.mv (.t 15)), []⟩,
    ⟨(some 17), (some (16, false)), .q (.mv (.t 5)), []⟩,
    ⟨(some 18), (some (16, false)), .q (.mv (.t 17)), []⟩,
    ⟨(some 19), (some (18, true)), .q (.mv (.t 4)), []⟩,
    ⟨(some 20), (some (18, true)), .q (.bin .eql (.t 19) (.v (.str []))), []⟩,
    ⟨(some 21), (some (18, true)), .q (.mv (.t 20)), []⟩,
    ⟨(some 22), (some (21, false)), .q (.mv (.t 4)), []⟩,
    ⟨(some 23), (some (21, false)), .q (.lenS (.t 22)), []⟩,
    ⟨(some 24), (some (21, false)), .q (.bin .gtr (.t 23) (.v (.int .i64 4))), []⟩,
    ⟨(some 25), (some (18, true)), .q (.pick (.t 21) (.v (.bool true)) (.t 24)), []⟩,
    ⟨(some 26), (some (16, false)), .q (.pick (.t 18) (.t 25) (.v (.bool false))), []⟩,
    ⟨(some 27), none, .q (.pick (.t 16) (.v (.bool true)) (.t 26)), []⟩]) Q a σ := id rfl
@[go_sem] theorem c57_3_wp (P : Program) (Q : APost) (a : AFr) (σ : ASt) : c57_3.wp P Q a σ = ACode.wp P (.ops [
    ⟨(some 2), none, .q (.mv (.v (.bool false))), []⟩]) Q a σ := id rfl
@[go_sem] theorem c57_4_wp (P : Program) (Q : APost) (a : AFr) (σ : ASt) : c57_4.wp P Q a σ = ACode.wp P (.seq c57_3 .ret) Q a σ := id rfl
@[go_sem] theorem c57_5_wp (P : Program) (Q : APost) (a : AFr) (σ : ASt) : c57_5.wp P Q a σ = ACode.wp P (.cond (.t 27) c57_4 .skip) Q a σ := id rfl
@[go_sem] theorem c57_6_wp (P : Program) (Q : APost) (a : AFr) (σ : ASt) : c57_6.wp P Q a σ = ACode.wp P (.seq c57_2 c57_5) Q a σ := id rfl
@[go_sem] theorem c57_7_wp (P : Program) (Q : APost) (a : AFr) (σ : ASt) : c57_7.wp P Q a σ = ACode.wp P (.ops [
    ⟨(some 28), none, .q (.mv (.t 3)), []⟩,
    ⟨(some 29), none, .q (.mv (.t 4)), []⟩,
    ⟨(some 30), none, .q (.bin .add (.t 28) (.t 29)), []⟩,
    ⟨(some 31), none, .e (.s2b (.t 30)), []⟩,
    ⟨(some 32), none, .q (.len (.t 31)), []⟩,
    ⟨(some 33), none, .q (.mv (.v (.int .i64 0))), []⟩]) Q a σ := id rfl
@[go_sem] theorem c57_8_wp (P : Program) (Q : APost) (a : AFr) (σ : ASt) : c57_8.wp P Q a σ = ACode.wp P (.ops [
    ⟨(some 34), none, .q (.bin .lss (.t 33) (.t 32)), []⟩]) Q a σ := id rfl
@[go_sem] theorem c57_9_wp (P : Program) (Q : APost) (a : AFr) (σ : ASt) : c57_9.wp P Q a σ = ACode.wp P (.cond (.t 34) .skip (.exit 0)) Q a σ := id rfl
@[go_sem] theorem c57_10_wp (P : Program) (Q : APost) (a : AFr) (σ : ASt) : c57_10.wp P Q a σ = ACode.wp P (.ops [
    ⟨(some 35), none, .q (.ia 1 (.t 31) (.t 33)), []⟩,
    ⟨(some 36), none, .q (.ld none (.t 35)), []⟩,
    ⟨(some 7), none, .q (.mv (.t 36)), []⟩]) Q a σ := id rfl
@[go_sem] theorem c57_11_wp (P : Program) (Q : APost) (a : AFr) (σ : ASt) : c57_11.wp P Q a σ = ACode.wp P (.ops [
    ⟨(some 37), none, .q (.mv (.t 7)), []⟩,
    ⟨(some 38), none, .e (.call 78 [(.t 37)]), []⟩,
    ⟨(some 39), none, .q (.un .not (.t 38)), []⟩]) Q a σ := id rfl
@[go_sem] theorem c57_12_wp (P : Program) (Q : APost) (a : AFr) (σ : ASt) : c57_12.wp P Q a σ = ACode.wp P (.ops [
    ⟨(some 2), none, .q (.mv (.v (.bool false))), []⟩]) Q a σ := id rfl
@[go_sem] theorem c57_13_wp (P : Program) (Q : APost) (a : AFr) (σ : ASt) : c57_13.wp P Q a σ = ACode.wp P (.seq c57_12 .ret) Q a σ := id rfl
@[go_sem] theorem c57_14_wp (P : Program) (Q : APost) (a : AFr) (σ : ASt) : c57_14.wp P Q a σ = ACode.wp P (.cond (.t 39) c57_13 .skip) Q a σ := id rfl
@[go_sem] theorem c57_15_wp (P : Program) (Q : APost) (a : AFr) (σ : ASt) : c57_15.wp P Q a σ = ACode.wp P (.seq c57_11 c57_14) Q a σ := id rfl
@[go_sem] theorem c57_16_wp (P : Program) (Q : APost) (a : AFr) (σ : ASt) : c57_16.wp P Q a σ = ACode.wp P (.seq c57_10 c57_15) Q a σ := id rfl
@[go_sem] theorem c57_17_wp (P : Program) (Q : APost) (a : AFr) (σ : ASt) : c57_17.wp P Q a σ = ACode.wp P (.block 1 c57_16) Q a σ := id rfl
@[go_sem] theorem c57_18_wp (P : Program) (Q : APost) (a : AFr) (σ : ASt) : c57_18.wp P Q a σ = ACode.wp P (.ops [
    ⟨(some 40), none, .q (.bin .add (.t 33) (.v (.int .i64 1))), []⟩,
    ⟨(some 33), none, .q (.mv (.t 40)), []⟩]) Q a σ := id rfl
@[go_sem] theorem c57_19_wp (P : Program) (Q : APost) (a : AFr) (σ : ASt) : c57_19.wp P Q a σ = ACode.wp P (.seq c57_17 c57_18) Q a σ := id rfl
@[go_sem] theorem c57_20_wp (P : Program) (Q : APost) (a : AFr) (σ : ASt) : c57_20.wp P Q a σ = ACode.wp P (.seq c57_9 c57_19) Q a σ := id rfl
@[go_sem] theorem c57_21_wp (P : Program) (Q : APost) (a : AFr) (σ : ASt) : c57_21.wp P Q a σ = ACode.wp P (.seq c57_8 c57_20) Q a σ := id rfl
@[go_sem] theorem c57_22_wp (P : Program) (Q : APost) (a : AFr) (σ : ASt) : c57_22.wp P Q a σ = ACode.wp P (.loop c57_21) Q a σ := id rfl
@[go_sem] theorem c57_23_wp (P : Program) (Q : APost) (a : AFr) (σ : ASt) : c57_23.wp P Q a σ = ACode.wp P (.block 0 c57_22) Q a σ := id rfl
@[go_sem] theorem c57_24_wp (P : Program) (Q : APost) (a : AFr) (σ : ASt) : c57_24.wp P Q a σ = ACode.wp P (.seq c57_7 c57_23) Q a σ := id rfl
@[go_sem] theorem c57_25_wp (P : Program) (Q : APost) (a : AFr) (σ : ASt) : c57_25.wp P Q a σ = ACode.wp P (.ops [
    ⟨(some 2), none, .q (.mv (.v (.bool true))), []⟩]) Q a σ := id rfl
@[go_sem] theorem c57_26_wp (P : Program) (Q : APost) (a : AFr) (σ : ASt) : c57_26.wp P Q a σ = ACode.wp P (.seq c57_25 .ret) Q a σ := id rfl
@[go_sem] theorem c57_27_wp (P : Program) (Q : APost) (a : AFr) (σ : ASt) : c57_27.wp P Q a σ = ACode.wp P (.seq c57_24 c57_26) Q a σ := id rfl
@[go_sem] theorem c57_28_wp (P : Program) (Q : APost) (a : AFr) (σ : ASt) : c57_28.wp P Q a σ = ACode.wp P (.seq c57_6 c57_27) Q a σ := id rfl
@[go_sem] theorem c57_29_wp (P : Program) (Q : APost) (a : AFr) (σ : ASt) : c57_29.wp P Q a σ = ACode.wp P (.seq c57_1 c57_28) Q a σ := id rfl
@[go_sem] theorem c57_30_wp (P : Program) (Q : APost) (a : AFr) (σ : ASt) : c57_30.wp P Q a σ = ACode.wp P (.seq c57_0 c57_29) Q a σ := id rfl
def c57 : AFn := ⟨41, [.t 2], c57_30⟩
set_option maxRecDepth 100000 in
theorem c57_ok : compF Tryd.prog Tryd.f57 = some c57 := by kernel_rfl
theorem a57 {args : List AV} {σ : ASt} {R : AV → ASt → Prop} (hl : args.length ≤ 41) (h : c57_30.wp Tryd.prog (RetQ [.t 2] R) (init args) σ) : ACalls Tryd.prog 57 args σ R := acalls_of Tryd.func57 c57_ok hl h

/-! 58: tabular/token.isRef -/
def c58_0 : ACode := .ops [
    ⟨(some 2), none, .q (.mv (.v (.bool false))), []⟩]
def c58_1 : ACode := .ops [
    ⟨(some 6), none, .q (.mv (.t 0)), []⟩,
    ⟨(some 7), none, .e (.call 11 [(.t 6)]), []⟩,
    ⟨(some 5), none, .q (.mv (.t 7)), []⟩,
    ⟨(some 8), none, .q (.ext 0 (.t 5)), []⟩,
    ⟨(some 9), none, .q (.ext 1 (.t 5)), []⟩,
    ⟨(some 3), none, .e (.alloc [(.int .i64 0), (.int .i64 0), (.bool false), (.bool false)]), []⟩,
    ⟨none, none, .e (.store 4 (.t 3) (.t 8)), []⟩,
    ⟨(some 4), none, .q (.mv (.t 9)), []⟩]
def c58_2 : ACode := .ops [
    ⟨(some 10), none, .q (.mv (.t 4)), []⟩,
    ⟨(some 2), none, .q (.mv (.t 10)), []⟩]
def c58_3 : ACode := .seq c58_2 .ret
def c58_4 : ACode := .seq c58_1 c58_3
def c58_5 : ACode := .seq c58_0 c58_4
@[go_sem] theorem c58_0_wp (P : Program) (Q : APost) (a : AFr) (σ : ASt) : c58_0.wp P Q a σ = ACode.wp P (.ops [
    ⟨(some 2), none, .q (.mv (.v (.bool false))), []⟩]) Q a σ := id rfl
@[go_sem] theorem c58_1_wp (P : Program) (Q : APost) (a : AFr) (σ : ASt) : c58_1.wp P Q a σ = ACode.wp P (.ops [
    ⟨(some 6), none, .q (.mv (.t 0)), []⟩,
    ⟨(some 7), none, .e (.call 11 [(.t 6)]), []⟩,
    ⟨(some 5), none, .q (.mv (.t 7)), []⟩,
    ⟨(some 8), none, .q (.ext 0 (.t 5)), []⟩,
    ⟨(some 9), none, .q (.ext 1 (.t 5)), []⟩,
    ⟨(some 3), none, .e (.alloc [(.int .i64 0), (.int .i64 0), (.bool false), (.bool false)]), []⟩,
    ⟨none, none, .e (.store 4 (.t 3) (.t 8)), []⟩,
    ⟨(some 4), none, .q (.mv (.t 9)), []⟩]) Q a σ := id rfl
@[go_sem] theorem c58_2_wp (P : Program) (Q : APost) (a : AFr) (σ : ASt) : c58_2.wp P Q a σ = ACode.wp P (.ops [
    ⟨(some 10), none, .q (.mv (.t 4)), []⟩,
    ⟨(some 2), none, .q (.mv (.t 10)), []⟩]) Q a σ := id rfl
@[go_sem] theorem c58_3_wp (P : Program) (Q : APost) (a : AFr) (σ : ASt) : c58_3.wp P Q a σ = ACode.wp P (.seq c58_2 .ret) Q a σ := id rfl
@[go_sem] theorem c58_4_wp (P : Program) (Q : APost) (a : AFr) (σ : ASt) : c58_4.wp P Q a σ = ACode.wp P (.seq c58_1 c58_3) Q a σ := id rfl
@[go_sem] theorem c58_5_wp (P : Program) (Q : APost) (a : AFr) (σ : ASt) : c58_5.wp P Q a σ = ACode.wp P (.seq c58_0 c58_4) Q a σ := id rfl
def c58 : AFn := ⟨11, [.t 2], c58_5⟩
set_option maxRecDepth 100000 in
theorem c58_ok : compF Tryd.prog Tryd.f58 = some c58 := by kernel_rfl
theorem a58 {args : List AV} {σ : ASt} {R : AV → ASt → Prop} (hl : args.length ≤ 11) (h : c58_5.wp Tryd.prog (RetQ [.t 2] R) (init args) σ) : ACalls Tryd.prog 58 args σ R := acalls_of Tryd.func58 c58_ok hl h

/-! 59: tabular/token.great -/
def c59_0 : ACode := .ops [
    ⟨(some 2), none, .q (.mv (.v (.str []))), []⟩]
def c59_1 : ACode := .ops [
    ⟨(some 6), none, .q (.mv (.t 0)), []⟩,
    ⟨(some 7), none, .e (.s2b (.t 6)), []⟩,
    ⟨(some 3), none, .q (.mv (.t 7)), []⟩]
def c59_2 : ACode := .ops [
    ⟨(some 8), none, .q (.mv (.t 3)), []⟩,
    ⟨(some 9), none, .q (.len (.t 8)), []⟩,
    ⟨(some 10), none, .q (.mv (.v (.int .i64 0))), []⟩]
def c59_3 : ACode := .ops [
    ⟨(some 11), none, .q (.bin .lss (.t 10) (.t 9)), []⟩]
def c59_4 : ACode := .cond (.t 11) .skip (.exit 0)
def c59_5 : ACode := .ops [
    ⟨(some 12), none, .q (.mv (.t 10)), []⟩,
    ⟨(some 13), none, .q (.ia 1 (.t 8) (.t 10)), []⟩,
    ⟨(some 14), none, .q (.ld none (.t 13)), []⟩,
    ⟨(some 4), none, .q (.mv (.t 12)), []⟩,
    ⟨(some 5), none, .q (.mv (.t 14)), []⟩]
def c59_6 : ACode := .ops [
    ⟨(some 15), none, .q (.mv (.t 5)), []⟩,
    ⟨(some 16), none, .q (.bin .geq (.t 15) (.v (.int .u8 97))), []⟩,
    ⟨(some 17), none, .q (.mv (.t 16)), []⟩,
    ⟨(some 18), (some (17, true)), .q (.mv (.t 5)), []⟩,
    ⟨(some 19), (some (17, true)), .q (.bin .leq (.t 18) (.v (.int .u8 122))), []⟩,
    ⟨(some 20), none, .q (.pick (.t 17) (.t 19) (.v (.bool false))), []⟩]
def c59_7 : ACode := .ops [
    ⟨(some 21), none, .q (.mv (.t 3)), []⟩,
    ⟨(some 22), none, .q (.mv (.t 4)), []⟩,
    ⟨(some 23), none, .q (.mv (.t 5)), []⟩,
    ⟨(some 24), none, .q (.bin .sub (.t 23) (.v (.int .u8 32))), []⟩,
    ⟨(some 25), none, .q (.ia 1 (.t 21) (.t 22)), []⟩,
    ⟨none, none, .e (.store 1 (.t 25) (.t 24)), []⟩]
def c59_8 : ACode := .cond (.t 20) c59_7 .skip
def c59_9 : ACode := .seq c59_6 c59_8
def c59_10 : ACode := .seq c59_5 c59_9
def c59_11 : ACode := .block 1 c59_10
def c59_12 : ACode := .ops [
    ⟨(some 26), none, .q (.bin .add (.t 10) (.v (.int .i64 1))), []⟩,
    ⟨(some 10), none, .q (.mv (.t 26)), []⟩]
def c59_13 : ACode := .seq c59_11 c59_12
def c59_14 : ACode := .seq c59_4 c59_13
def c59_15 : ACode := .seq c59_3 c59_14
def c59_16 : ACode := .loop c59_15
def c59_17 : ACode := .block 0 c59_16
def c59_18 : ACode := .seq c59_2 c59_17
def c59_19 : ACode := .ops [
    ⟨(some 27), none, .q (.mv (.t 3)), []⟩,
    ⟨(some 28), none, .q (.b2s (.t 27)), []⟩,
    ⟨(some 2), none, .q (.mv (.t 28)), []⟩]
def c59_20 : ACode := .seq c59_19 .ret
def c59_21 : ACode := .seq c59_18 c59_20
def c59_22 : ACode := .seq c59_1 c59_21
def c59_23 : ACode := .seq c59_0 c59_22
@[go_sem] theorem c59_0_wp (P : Program) (Q : APost) (a : AFr) (σ : ASt) : c59_0.wp P Q a σ = ACode.wp P (.ops [
    ⟨(some 2), none, .q (.mv (.v (.str []))), []⟩]) Q a σ := id rfl
@[go_sem] theorem c59_1_wp (P : Program) (Q : APost) (a : AFr) (σ : ASt) : c59_1.wp P Q a σ = ACode.wp P (.ops [
    ⟨(some 6), none, .q (.mv (.t 0)), []⟩,
    ⟨(some 7), none, .e (.s2b (.t 6)), []⟩,
    ⟨(some 3), none, .q (.mv (.t 7)), []⟩]) Q a σ := id rfl
@[go_sem] theorem c59_2_wp (P : Program) (Q : APost) (a : AFr) (σ : ASt) : c59_2.wp P Q a σ = ACode.wp P (.ops [
    ⟨(some 8), none, .q (.mv (.t 3)), []⟩,
    ⟨(some 9), none, .q (.len (.t 8)), []⟩,
    ⟨(some 10), none, .q (.mv (.v (.int .i64 0))), []⟩]) Q a σ := id rfl
@[go_sem] theorem c59_3_wp (P : Program) (Q : APost) (a : AFr) (σ : ASt) : c59_3.wp P Q a σ = ACode.wp P (.ops [
    ⟨(some 11), none, .q (.bin .lss (.t 10) (.t 9)), []⟩]) Q a σ := id rfl
@[go_sem] theorem c59_4_wp (P : Program) (Q : APost) (a : AFr) (σ : ASt) : c59_4.wp P Q a σ = ACode.wp P (.cond (.t 11) .skip (.exit 0)) Q a σ := id rfl
@[go_sem] theorem c59_5_wp (P : Program) (Q : APost) (a : AFr) (σ : ASt) : c59_5.wp P Q a σ = ACode.wp P (.ops [
    ⟨(some 12), none, .q (.mv (.t 10)), []⟩,
    ⟨(some 13), none, .q (.ia 1 (.t 8) (.t 10)), []⟩,
    ⟨(some 14), none, .q (.ld none (.t 13)), []⟩,
    ⟨(some 4), none, .q (.mv (.t 12)), []⟩,
    ⟨(some 5), none, .q (.mv (.t 14)), []⟩]) Q a σ := id rfl
@[go_sem] theorem c59_6_wp (P : Program) (Q : APost) (a : AFr) (σ : ASt) : c59_6.wp P Q a σ = ACode.wp P (.ops [
    ⟨(some 15), none, .q (.mv (.t 5)), []⟩,
    ⟨(some 16), none, .q (.bin .geq (.t 15) (.v (.int .u8 97))), []⟩,
    ⟨(some 17), none, .q (.mv (.t 16)), []⟩,
    ⟨(some 18), (some (17, true)), .q (.mv (.t 5)), []⟩,
    ⟨(some 19), (some (17, true)), .q (.bin .leq (.t 18) (.v (.int .u8 122))), []⟩,
    ⟨(some 20), none, .q (.pick (.t 17) (.t 19) (.v (.bool false))), []⟩]) Q a σ := id rfl
@[go_sem] theorem c59_7_wp (P : Program) (Q : APost) (a : AFr) (σ : ASt) : c59_7.wp P Q a σ = ACode.wp P (.ops [
    ⟨(some 21), none, .q (.mv (.t 3)), []⟩,
    ⟨(some 22), none, .q (.mv (.t 4)), []⟩,
    ⟨(some 23), none, .q (.mv (.t 5)), []⟩,
    ⟨(some 24), none, .q (.bin .sub (.t 23) (.v (.int .u8 32))), []⟩,
    ⟨(some 25), none, .q (.ia 1 (.t 21) (.t 22)), []⟩,
    ⟨none, none, .e (.store 1 (.t 25) (.t 24)), []⟩]) Q a σ := id rfl
@[go_sem] theorem c59_8_wp (P : Program) (Q : APost) (a : AFr) (σ : ASt) : c59_8.wp P Q a σ = ACode.wp P (.cond (.t 20) c59_7 .skip) Q a σ := id rfl
@[go_sem] theorem c59_9_wp (P : Program) (Q : APost) (a : AFr) (σ : ASt) : c59_9.wp P Q a σ = ACode.wp P (.seq c59_6 c59_8) Q a σ := id rfl
@[go_sem] theorem c59_10_wp (P : Program) (Q : APost) (a : AFr) (σ : ASt) : c59_10.wp P Q a σ = ACode.wp P (.seq c59_5 c59_9) Q a σ := id rfl
@[go_sem] theorem c59_11_wp (P : Program) (Q : APost) (a : AFr) (σ : ASt) : c59_11.wp P Q a σ = ACode.wp P (.block 1 c59_10) Q a σ := id rfl
@[go_sem] theorem c59_12_wp (P : Program) (Q : APost) (a : AFr) (σ : ASt) : c59_12.wp P Q a σ = ACode.wp P (.ops [
    ⟨(some 26), none, .q (.bin .add (.t 10) (.v (.int .i64 1))), []⟩,
    ⟨(some 10), none, .q (.mv (.t 26)), []⟩]) Q a σ := id rfl
@[go_sem] theorem c59_13_wp (P : Program) (Q : APost) (a : AFr) (σ : ASt) : c59_13.wp P Q a σ = ACode.wp P (.seq c59_11 c59_12) Q a σ := id rfl
@[go_sem] theorem c59_14_wp (P : Program) (Q : APost) (a : AFr) (σ : ASt) : c59_14.wp P Q a σ = ACode.wp P (.seq c59_4 c59_13) Q a σ := id rfl
@[go_sem] theorem c59_15_wp (P : Program) (Q : APost) (a : AFr) (σ : ASt) : c59_15.wp P Q a σ = ACode.wp P (.seq c59_3 c59_14) Q a σ := id rfl
@[go_sem] theorem c59_16_wp (P : Program) (Q : APost) (a : AFr) (σ : ASt) : c59_16.wp P Q a σ = ACode.wp P (.loop c59_15) Q a σ := id rfl
@[go_sem] theorem c59_17_wp (P : Program) (Q : APost) (a : AFr) (σ : ASt) : c59_17.wp P Q a σ = ACode.wp P (.block 0 c59_16) Q a σ := id rfl
@[go_sem] theorem c59_18_wp (P : Program) (Q : APost) (a : AFr) (σ : ASt) : c59_18.wp P Q a σ = ACode.wp P (.seq c59_2 c59_17) Q a σ := id rfl
@[go_sem] theorem c59_19_wp (P : Program) (Q : APost) (a : AFr) (σ : ASt) : c59_19.wp P Q a σ = ACode.wp P (.ops [
    ⟨(some 27), none, .q (.mv (.t 3)), []⟩,
    ⟨(some 28), none, .q (.b2s (.t 27)), []⟩,
    ⟨(some 2), none, .q (.mv (.t 28)), []⟩]) Q a σ := id rfl
@[go_sem] theorem c59_20_wp (P : Program) (Q : APost) (a : AFr) (σ : ASt) : c59_20.wp P Q a σ = ACode.wp P (.seq c59_19 .ret) Q a σ := id rfl
@[go_sem] theorem c59_21_wp (P : Program) (Q : APost) (a : AFr) (σ : ASt) : c59_21.wp P Q a σ = ACode.wp P (.seq c59_18 c59_20) Q a σ := id rfl
@[go_sem] theorem c59_22_wp (P : Program) (Q : APost) (a : AFr) (σ : ASt) : c59_22.wp P Q a σ = ACode.wp P (.seq c59_1 c59_21) Q a σ := id rfl
@[go_sem] theorem c59_23_wp (P : Program) (Q : APost) (a : AFr) (σ : ASt) : c59_23.wp P Q a σ = ACode.wp P (.seq c59_0 c59_22) Q a σ := id rfl
def c59 : AFn := ⟨29, [.t 2], c59_23⟩
set_option maxRecDepth 100000 in
theorem c59_ok : compF Tryd.prog Tryd.f59 = some c59 := by kernel_rfl
theorem a59 {args : List AV} {σ : ASt} {R : AV → ASt → Prop} (hl : args.length ≤ 29) (h : c59_23.wp Tryd.prog (RetQ [.t 2] R) (init args) σ) : ACalls Tryd.prog 59 args σ R := acalls_of Tryd.func59 c59_ok hl h

/-! 60: tabular/token.isName -/
def c60_0 : ACode := .ops [
    ⟨(some 2), none, .q (.mv (.v (.bool false))), []⟩]
def c60_1 : ACode := .ops [
    ⟨(some 4), none, .q (.mv (.t 0)), []⟩,
    ⟨(some 5), none, .q (.lenS (.t 4)), []⟩,
    ⟨(some 6), none, .q (.mv (.v (.int .i64 0))), []⟩]
def c60_2 : ACode := .ops [
    ⟨(some 7), none, .q (.bin .lss (.t 6) (.t 5)), []⟩]
def c60_3 : ACode := .cond (.t 7) .skip (.exit 0)
def c60_4 : ACode := .ops [
    ⟨(some 8), none, .q (.mv (.t 6)), []⟩,
    ⟨(some 3), none, .q (.mv (.t 8)), []⟩]
def c60_5 : ACode := .ops [
    ⟨(some 9), none, .q (.mv (.t 0)), []⟩,
    ⟨(some 10), none, .q (.mv (.t 3)), []⟩,
    ⟨(some 11), none, .q (.idx (.t 9) (.t 10)), []⟩,
    ⟨(some 12), none, .e (.call 48 [(.t 11)]), []⟩,
    ⟨(some 13), none, .q (.un .not (.t 12)), []⟩,
    ⟨(some 14), none, .q (.mv (.t 13)), []⟩,
    ⟨(some 15), (some (14, false)), .q (.mv (.t 0)), []⟩,
    ⟨(some 16), (some (14, false)), .q (.mv (.t 3)), []⟩,
    ⟨(some 17), (some (14, false)), .q (.idx (.t 15) (.t 16)), []⟩,
    ⟨(some 18), (some (14, false)), .q (.bin .eql (.t 17) (.v (.int .u8 36))), []⟩,
    ⟨(some 19), none, .q (.pick (.t 14) (.v (.bool true)) (.t 18)), []⟩,
    ⟨(some 20), none, .q (.mv (.t 19)), []⟩,
    ⟨(some 21), (some (20, false)), .q (.mv (.t 3)), []⟩,
    ⟨(some 22), (some (20, false)), .q (.bin .eql (.t 21) (.v (.int .i64 0))), []⟩,
    ⟨(some 23), (some (20, false)), .q (.mv (.t 22)), []⟩,
    ⟨(some 24), (some (23, true)), .q (.mv (.t 0)), []⟩,
    ⟨(some 25), (some (23, true)), .q (.mv (.t 3)), []⟩,
    ⟨(some 26), (some (23, true)), .q (.idx (.t 24) (.t 25)), []⟩,
    ⟨(some 27), (some (23, true)), .e (.call 78 [(.t 26)]), []⟩,
    ⟨(some 28), (some (23, true)), .q (.mv (.t 27)), []⟩,
    ⟨(some 29), (some (28, false)), .q (.mv (.t 0)), []⟩,
    ⟨(some 30), (some (28, false)), .q (.mv (.t 3)), []⟩,
    ⟨(some 31), (some (28, false)), .q (.idx (.t 29) (.t 30)), []⟩,
    ⟨(some 32), (some (28, false)), .q (.bin .eql (.t 31) (.v (.int .u8 46))), []⟩,
    ⟨(some 33), (some (23, true)), .q (.pick (.t 28) (.v (.bool true)) (.t 32)), []⟩,
    ⟨(some 34), (some (20, false)), .q (.pick (.t 23) (.t 33) (.v (.bool false))), []⟩,
    ⟨(some 35), none, .q (.pick (.t 20) (.v (.bool true)) (.t 34)), []⟩]
def c60_6 : ACode := .ops [
    ⟨(some 2), none, .q (.mv (.v (.bool false))), []⟩]
def c60_7 : ACode := .seq c60_6 .ret
def c60_8 : ACode := .cond (.t 35) c60_7 .skip
def c60_9 : ACode := .seq c60_5 c60_8
def c60_10 : ACode := .seq c60_4 c60_9
def c60_11 : ACode := .block 1 c60_10
def c60_12 : ACode := .ops [
    ⟨(some 36), none, .q (.bin .add (.t 6) (.v (.int .i64 1))), []⟩,
    ⟨(some 6), none, .q (.mv (.t 36)), []⟩]
def c60_13 : ACode := .seq c60_11 c60_12
def c60_14 : ACode := .seq c60_3 c60_13
def c60_15 : ACode := .seq c60_2 c60_14
def c60_16 : ACode := .loop c60_15
def c60_17 : ACode := .block 0 c60_16
def c60_18 : ACode := .seq c60_1 c60_17
def c60_19 : ACode := .ops [
    ⟨(some 37), none, .q (.mv (.t 0)), []⟩,
    ⟨(some 38), none, .q (.bin .neq (.t 37) (.v (.str []))), []⟩,
    ⟨(some 2), none, .q (.mv (.t 38)), []⟩]
def c60_20 : ACode := .seq c60_19 .ret
def c60_21 : ACode := .seq c60_18 c60_20
def c60_22 : ACode := .seq c60_0 c60_21
@[go_sem] theorem c60_0_wp (P : Program) (Q : APost) (a : AFr) (σ : ASt) : c60_0.wp P Q a σ = ACode.wp P (.ops [
    ⟨(some 2), none, .q (.mv (.v (.bool false))), []⟩]) Q a σ := id rfl
@[go_sem] theorem c60_1_wp (P : Program) (Q : APost) (a : AFr) (σ : ASt) : c60_1.wp P Q a σ = ACode.wp P (.ops [
    ⟨(some 4), none, .q (.mv (.t 0)), []⟩,
    ⟨(some 5), none, .q (.lenS (.t 4)), []⟩,
    ⟨(some 6), none, .q (.mv (.v (.int .i64 0))), []⟩]) Q a σ := id rfl
@[go_sem] theorem c60_2_wp (P : Program) (Q : APost) (a : AFr) (σ : ASt) : c60_2.wp P Q a σ = ACode.wp P (.ops [
    ⟨(some 7), none, .q (.bin .lss (.t 6) (.t 5)), []⟩]) Q a σ := id rfl
@[go_sem] theorem c60_3_wp (P : Program) (Q : APost) (a : AFr) (σ : ASt) : c60_3.wp P Q a σ = ACode.wp P (.cond (.t 7) .skip (.exit 0)) Q a σ := id rfl
@[go_sem] theorem c60_4_wp (P : Program) (Q : APost) (a : AFr) (σ : ASt) : c60_4.wp P Q a σ = ACode.wp P (.ops [
    ⟨(some 8), none, .q (.mv (.t 6)), []⟩,
    ⟨(some 3), none, .q (.mv (.t 8)), []⟩]) Q a σ := id rfl
@[go_sem] theorem c60_5_wp (P : Program) (Q : APost) (a : AFr) (σ : ASt) : c60_5.wp P Q a σ = ACode.wp P (.ops [
    ⟨(some 9), none, .q (.mv (.t 0)), []⟩,
    ⟨(some 10), none, .q (.mv (.t 3)), []⟩,
    ⟨(some 11), none, .q (.idx (.t 9) (.t 10)), []⟩,
    ⟨(some 12), none, .e (.call 48 [(.t 11)]), []⟩,
    ⟨(some 13), none, .q (.un .not (.t 12)), []⟩,
    ⟨(some 14), none, .q (.mv (.t 13)), []⟩,
    ⟨(some 15), (some (14, false)), .q (.mv (.t 0)), []⟩,
    ⟨(some 16), (some (14, false)), .q (.mv (.t 3)), []⟩,
    ⟨(some 17), (some (14, false)), .q (.idx (.t 15) (.t 16)), []⟩,
    ⟨(some 18), (some (14, false)), .q (.bin .eql (.t 17) (.v (.int .u8 36))), []⟩,
    ⟨(some 19), none, .q (.pick (.t 14) (.v (.bool true)) (.t 18)), []⟩,
    ⟨(some 20), none, .q (.mv (.t 19)), []⟩,
    ⟨(some 21), (some (20, false)), .q (.mv (.t 3)), []⟩,
    ⟨(some 22), (some (20, false)), .q (.bin .eql (.t 21) (.v (.int .i64 0))), []⟩,
    ⟨(some 23), (some (20, false)), .q (.mv (.t 22)), []⟩,
    ⟨(some 24), (some (23, true)), .q (.mv (.t 0)), []⟩,
    ⟨(some 25), (some (23, true)), .q (.mv (.t 3)), []⟩,
    ⟨(some 26), (some (23, true)), .q (.idx (.t 24) (.t 25)), []⟩,
    ⟨(some 27), (some (23, true)), .e (.call 78 [(.t 26)]), []⟩,
    ⟨(some 28), (some (23, true)), .q (.mv (.t 27)), []⟩,
    ⟨(some 29), (some (28, false)), .q (.mv (.t 0)), []⟩,
    ⟨(some 30), (some (28, false)), .q (.mv (.t 3)), []⟩,
    ⟨(some 31), (some (28, false)), .q (.idx (.t 29) (.t 30)), []⟩,
    ⟨(some 32), (some (28, false)), .q (.bin .eql (.t 31) (.v (.int .u8 46))), []⟩,
    ⟨(some 33), (some (23, true)), .q (.pick (.t 28) (.v (.bool true)) (.t 32)), []⟩,
    ⟨(some 34), (some (20, false)), .q (.pick (.t 23) (.t 33) (.v (.bool false))), []⟩,
    ⟨(some 35), none, .q (.pick (.t 20) (.v (.bool true)) (.t 34)), []⟩]) Q a σ := id rfl
@[go_sem] theorem c60_6_wp (P : Program) (Q : APost) (a : AFr) (σ : ASt) : c60_6.wp P Q a σ = ACode.wp P (.ops [
    ⟨(some 2), none, .q (.mv (.v (.bool false))), []⟩]) Q a σ := id rfl
@[go_sem] theorem c60_7_wp (P : Program) (Q : APost) (a : AFr) (σ : ASt) : c60_7.wp P Q a σ = ACode.wp P (.seq c60_6 .ret) Q a σ := id rfl
@[go_sem] theorem c60_8_wp (P : Program) (Q : APost) (a : AFr) (σ : ASt) : c60_8.wp P Q a σ = ACode.wp P (.cond (.t 35) c60_7 .skip) Q a σ := id rfl
@[go_sem] theorem c60_9_wp (P : Program) (Q : APost) (a : AFr) (σ : ASt) : c60_9.wp P Q a σ = ACode.wp P (.seq c60_5 c60_8) Q a σ := id rfl
@[go_sem] theorem c60_10_wp (P : Program) (Q : APost) (a : AFr) (σ : ASt) : c60_10.wp P Q a σ = ACode.wp P (.seq c60_4 c60_9) Q a σ := id rfl
@[go_sem] theorem c60_11_wp (P : Program) (Q : APost) (a : AFr) (σ : ASt) : c60_11.wp P Q a σ = ACode.wp P (.block 1 c60_10) Q a σ := id rfl
@[go_sem] theorem c60_12_wp (P : Program) (Q : APost) (a : AFr) (σ : ASt) : c60_12.wp P Q a σ = ACode.wp P (.ops [
    ⟨(some 36), none, .q (.bin .add (.t 6) (.v (.int .i64 1))), []⟩,
    ⟨(some 6), none, .q (.mv (.t 36)), []⟩]) Q a σ := id rfl
@[go_sem] theorem c60_13_wp (P : Program) (Q : APost) (a : AFr) (σ : ASt) : c60_13.wp P Q a σ = ACode.wp P (.seq c60_11 c60_12) Q a σ := id rfl
@[go_sem] theorem c60_14_wp (P : Program) (Q : APost) (a : AFr) (σ : ASt) : c60_14.wp P Q a σ = ACode.wp P (.seq c60_3 c60_13) Q a σ := id rfl
@[go_sem] theorem c60_15_wp (P : Program) (Q : APost) (a : AFr) (σ : ASt) : c60_15.wp P Q a σ = ACode.wp P (.seq c60_2 c60_14) Q a σ := id rfl
@[go_sem] theorem c60_16_wp (P : Program) (Q : APost) (a : AFr) (σ : ASt) : c60_16.wp P Q a σ = ACode.wp P (.loop c60_15) Q a σ := id rfl
@[go_sem] theorem c60_17_wp (P : Program) (Q : APost) (a : AFr) (σ : ASt) : c60_17.wp P Q a σ = ACode.wp P (.block 0 c60_16) Q a σ := id rfl
@[go_sem] theorem c60_18_wp (P : Program) (Q : APost) (a : AFr) (σ : ASt) : c60_18.wp P Q a σ = ACode.wp P (.seq c60_1 c60_17) Q a σ := id rfl
@[go_sem] theorem c60_19_wp (P : Program) (Q : APost) (a : AFr) (σ : ASt) : c60_19.wp P Q a σ = ACode.wp P (.ops [
    ⟨(some 37), none, .q (.mv (.t 0)), []⟩,
    ⟨(some 38), none, .q (.bin .neq (.t 37) (.v (.str []))), []⟩,
    ⟨(some 2), none, .q (.mv (.t 38)), []⟩]) Q a σ := id rfl
@[go_sem] theorem c60_20_wp (P : Program) (Q : APost) (a : AFr) (σ : ASt) : c60_20.wp P Q a σ = ACode.wp P (.seq c60_19 .ret) Q a σ := id rfl
@[go_sem] theorem c60_21_wp (P : Program) (Q : APost) (a : AFr) (σ : ASt) : c60_21.wp P Q a σ = ACode.wp P (.seq c60_18 c60_20) Q a σ := id rfl
@[go_sem] theorem c60_22_wp (P : Program) (Q : APost) (a : AFr) (σ : ASt) : c60_22.wp P Q a σ = ACode.wp P (.seq c60_0 c60_21) Q a σ := id rfl
def c60 : AFn := ⟨39, [.t 2], c60_22⟩
set_option maxRecDepth 100000 in
theorem c60_ok : compF Tryd.prog Tryd.f60 = some c60 := by kernel_rfl
theorem a60 {args : List AV} {σ : ASt} {R : AV → ASt → Prop} (hl : args.length ≤ 39) (h : c60_22.wp Tryd.prog (RetQ [.t 2] R) (init args) σ) : ACalls Tryd.prog 60 args σ R := acalls_of Tryd.func60 c60_ok hl h

/-! 61: (*strings.Builder).WriteRune -/
def c61_0 : ACode := .ops [
    ⟨(some 4), none, .q (.mv (.v (.int .i64 0))), []⟩,
    ⟨(some 5), none, .q (.mv (.v .nili)), []⟩]
def c61_1 : ACode := .ops [
    ⟨(some 7), none, .q (.mv (.t 0)), []⟩,
    ⟨(some 8), none, .e (.call 79 [(.t 7)]), []⟩]
def c61_2 : ACode := .ops [
    ⟨(some 9), none, .q (.mv (.t 0)), []⟩,
    ⟨(some 10), none, .q (.nc (.t 9)), []⟩,
    ⟨(some 11), none, .q (.fa 1 (.t 10)), []⟩,
    ⟨(some 12), none, .q (.ld none (.t 11)), []⟩,
    ⟨(some 13), none, .q (.len (.t 12)), []⟩,
    ⟨(some 6), none, .q (.mv (.t 13)), []⟩]
def c61_3 : ACode := .ops [
    ⟨(some 14), none, .q (.mv (.t 0)), []⟩,
    ⟨(some 15), none, .q (.mv (.t 0)), []⟩,
    ⟨(some 16), none, .q (.nc (.t 15)), []⟩,
    ⟨(some 17), none, .q (.fa 1 (.t 16)), []⟩,
    ⟨(some 18), none, .q (.ld none (.t 17)), []⟩,
    ⟨(some 19), none, .q (.mv (.t 1)), []⟩,
    ⟨(some 20), none, .e (.call 80 [(.t 18), (.t 19)]), []⟩,
    ⟨(some 21), none, .q (.nc (.t 14)), []⟩,
    ⟨(some 22), none, .q (.fa 1 (.t 21)), []⟩,
    ⟨none, none, .e (.store 1 (.t 22) (.t 20)), []⟩]
def c61_4 : ACode := .ops [
    ⟨(some 23), none, .q (.mv (.t 0)), []⟩,
    ⟨(some 24), none, .q (.nc (.t 23)), []⟩,
    ⟨(some 25), none, .q (.fa 1 (.t 24)), []⟩,
    ⟨(some 26), none, .q (.ld none (.t 25)), []⟩,
    ⟨(some 27), none, .q (.len (.t 26)), []⟩,
    ⟨(some 28), none, .q (.mv (.t 6)), []⟩,
    ⟨(some 29), none, .q (.bin .sub (.t 27) (.t 28)), []⟩,
    ⟨(some 4), none, .q (.mv (.t 29)), []⟩,
    ⟨(some 5), none, .q (.mv (.v .nili)), []⟩]
def c61_5 : ACode := .seq c61_4 .ret
def c61_6 : ACode := .seq c61_3 c61_5
def c61_7 : ACode := .seq c61_2 c61_6
def c61_8 : ACode := .seq c61_1 c61_7
def c61_9 : ACode := .seq c61_0 c61_8
@[go_sem] theorem c61_0_wp (P : Program) (Q : APost) (a : AFr) (σ : ASt) : c61_0.wp P Q a σ = ACode.wp P (.ops [
    ⟨(some 4), none, .q (.mv (.v (.int .i64 0))), []⟩,
    ⟨(some 5), none, .q (.mv (.v .nili)), []⟩]) Q a σ := id rfl
@[go_sem] theorem c61_1_wp (P : Program) (Q : APost) (a : AFr) (σ : ASt) : c61_1.wp P Q a σ = ACode.wp P (.ops [
    ⟨(some 7), none, .q (.mv (.t 0)), []⟩,
    ⟨(some 8), none, .e (.call 79 [(.t 7)]), []⟩]) Q a σ := id rfl
@[go_sem] theorem c61_2_wp (P : Program) (Q : APost) (a : AFr) (σ : ASt) : c61_2.wp P Q a σ = ACode.wp P (.ops [
    ⟨(some 9), none, .q (.mv (.t 0)), []⟩,
    ⟨(some 10), none, .q (.nc (.t 9)), []⟩,
    ⟨(some 11), none, .q (.fa 1 (.t 10)), []⟩,
    ⟨(some 12), none, .q (.ld none (.t 11)), []⟩,
    ⟨(some 13), none, .q (.len (.t 12)), []⟩,
    ⟨(some 6), none, .q (.mv (.t 13)), []⟩]) Q a σ := id rfl
@[go_sem] theorem c61_3_wp (P : Program) (Q : APost) (a : AFr) (σ : ASt) : c61_3.wp P Q a σ = ACode.wp P (.ops [
    ⟨(some 14), none, .q (.mv (.t 0)), []⟩,
    ⟨(some 15), none, .q (.mv (.t 0)), []⟩,
    ⟨(some 16), none, .q (.nc (.t 15)), []⟩,
    ⟨(some 17), none, .q (.fa 1 (.t 16)), []⟩,
    ⟨(some 18), none, .q (.ld none (.t 17)), []⟩,
    ⟨(some 19), none, .q (.mv (.t 1)), []⟩,
    ⟨(some 20), none, .e (.call 80 [(.t 18), (.t 19)]), []⟩,
    ⟨(some 21), none, .q (.nc (.t 14)), []⟩,
    ⟨(some 22), none, .q (.fa 1 (.t 21)), []⟩,
    ⟨none, none, .e (.store 1 (.t 22) (.t 20)), []⟩]) Q a σ := id rfl
@[go_sem] theorem c61_4_wp (P : Program) (Q : APost) (a : AFr) (σ : ASt) : c61_4.wp P Q a σ = ACode.wp P (.ops [
    ⟨(some 23), none, .q (.mv (.t 0)), []⟩,
    ⟨(some 24), none, .q (.nc (.t 23)), []⟩,
    ⟨(some 25), none, .q (.fa 1 (.t 24)), []⟩,
    ⟨(some 26), none, .q (.ld none (.t 25)), []⟩,
    ⟨(some 27), none, .q (.len (.t 26)), []⟩,
    ⟨(some 28), none, .q (.mv (.t 6)), []⟩,
    ⟨(some 29), none, .q (.bin .sub (.t 27) (.t 28)), []⟩,
    ⟨(some 4), none, .q (.mv (.t 29)), []⟩,
    ⟨(some 5), none, .q (.mv (.v .nili)), []⟩]) Q a σ := id rfl
@[go_sem] theorem c61_5_wp (P : Program) (Q : APost) (a : AFr) (σ : ASt) : c61_5.wp P Q a σ = ACode.wp P (.seq c61_4 .ret) Q a σ := id rfl
@[go_sem] theorem c61_6_wp (P : Program) (Q : APost) (a : AFr) (σ : ASt) : c61_6.wp P Q a σ = ACode.wp P (.seq c61_3 c61_5) Q a σ := id rfl
@[go_sem] theorem c61_7_wp (P : Program) (Q : APost) (a : AFr) (σ : ASt) : c61_7.wp P Q a σ = ACode.wp P (.seq c61_2 c61_6) Q a σ := id rfl
@[go_sem] theorem c61_8_wp (P : Program) (Q : APost) (a : AFr) (σ : ASt) : c61_8.wp P Q a σ = ACode.wp P (.seq c61_1 c61_7) Q a σ := id rfl
@[go_sem] theorem c61_9_wp (P : Program) (Q : APost) (a : AFr) (σ : ASt) : c61_9.wp P Q a σ = ACode.wp P (.seq c61_0 c61_8) Q a σ := id rfl
def c61 : AFn := ⟨30, [.t 4, .t 5], c61_9⟩
set_option maxRecDepth 100000 in
theorem c61_ok : compF Tryd.prog Tryd.f61 = some c61 := by kernel_rfl
theorem a61 {args : List AV} {σ : ASt} {R : AV → ASt → Prop} (hl : args.length ≤ 30) (h : c61_9.wp Tryd.prog (RetQ [.t 4, .t 5] R) (init args) σ) : ACalls Tryd.prog 61 args σ R := acalls_of Tryd.func61 c61_ok hl h

/-! 63: (*strings.Builder).WriteByte -/
def c63_0 : ACode := .ops [
    ⟨(some 4), none, .q (.mv (.v .nili)), []⟩]
def c63_1 : ACode := .ops [
    ⟨(some 5), none, .q (.mv (.t 0)), []⟩,
    ⟨(some 6), none, .e (.call 79 [(.t 5)]), []⟩]
def c63_2 : ACode := .ops [
    ⟨(some 7), none, .q (.mv (.t 0)), []⟩,
    ⟨(some 8), none, .q (.mv (.t 0)), []⟩,
    ⟨(some 9), none, .q (.nc (.t 8)), []⟩,
    ⟨(some 10), none, .q (.fa 1 (.t 9)), []⟩,
    ⟨(some 11), none, .q (.ld none (.t 10)), []⟩,
    ⟨(some 12), none, .q (.mv (.t 1)), []⟩,
    ⟨(some 13), none, .q (.bsl 1 [(.t 12)]), []⟩,
    ⟨(some 14), none, .e (.app 5 1 1 [(.int .u8 0)] (.t 11) (.t 13)), []⟩,
    ⟨(some 15), none, .q (.nc (.t 7)), []⟩,
    ⟨(some 16), none, .q (.fa 1 (.t 15)), []⟩,
    ⟨none, none, .e (.store 1 (.t 16) (.t 14)), []⟩]
def c63_3 : ACode := .ops [
    ⟨(some 4), none, .q (.mv (.v .nili)), []⟩]
def c63_4 : ACode := .seq c63_3 .ret
def c63_5 : ACode := .seq c63_2 c63_4
def c63_6 : ACode := .seq c63_1 c63_5
def c63_7 : ACode := .seq c63_0 c63_6
@[go_sem] theorem c63_0_wp (P : Program) (Q : APost) (a : AFr) (σ : ASt) : c63_0.wp P Q a σ = ACode.wp P (.ops [
    ⟨(some 4), none, .q (.mv (.v .nili)), []⟩]) Q a σ := id rfl
@[go_sem] theorem c63_1_wp (P : Program) (Q : APost) (a : AFr) (σ : ASt) : c63_1.wp P Q a σ = ACode.wp P (.ops [
    ⟨(some 5), none, .q (.mv (.t 0)), []⟩,
    ⟨(some 6), none, .e (.call 79 [(.t 5)]), []⟩]) Q a σ := id rfl
@[go_sem] theorem c63_2_wp (P : Program) (Q : APost) (a : AFr) (σ : ASt) : c63_2.wp P Q a σ = ACode.wp P (.ops [
    ⟨(some 7), none, .q (.mv (.t 0)), []⟩,
    ⟨(some 8), none, .q (.mv (.t 0)), []⟩,
    ⟨(some 9), none, .q (.nc (.t 8)), []⟩,
    ⟨(some 10), none, .q (.fa 1 (.t 9)), []⟩,
    ⟨(some 11), none, .q (.ld none (.t 10)), []⟩,
    ⟨(some 12), none, .q (.mv (.t 1)), []⟩,
    ⟨(some 13), none, .q (.bsl 1 [(.t 12)]), []⟩,
    ⟨(some 14), none, .e (.app 5 1 1 [(.int .u8 0)] (.t 11) (.t 13)), []⟩,
    ⟨(some 15), none, .q (.nc (.t 7)), []⟩,
    ⟨(some 16), none, .q (.fa 1 (.t 15)), []⟩,
    ⟨none, none, .e (.store 1 (.t 16) (.t 14)), []⟩]) Q a σ := id rfl
@[go_sem] theorem c63_3_wp (P : Program) (Q : APost) (a : AFr) (σ : ASt) : c63_3.wp P Q a σ = ACode.wp P (.ops [
    ⟨(some 4), none, .q (.mv (.v .nili)), []⟩]) Q a σ := id rfl
@[go_sem] theorem c63_4_wp (P : Program) (Q : APost) (a : AFr) (σ : ASt) : c63_4.wp P Q a σ = ACode.wp P (.seq c63_3 .ret) Q a σ := id rfl
@[go_sem] theorem c63_5_wp (P : Program) (Q : APost) (a : AFr) (σ : ASt) : c63_5.wp P Q a σ = ACode.wp P (.seq c63_2 c63_4) Q a σ := id rfl
@[go_sem] theorem c63_6_wp (P : Program) (Q : APost) (a : AFr) (σ : ASt) : c63_6.wp P Q a σ = ACode.wp P (.seq c63_1 c63_5) Q a σ := id rfl
@[go_sem] theorem c63_7_wp (P : Program) (Q : APost) (a : AFr) (σ : ASt) : c63_7.wp P Q a σ = ACode.wp P (.seq c63_0 c63_6) Q a σ := id rfl
def c63 : AFn := ⟨17, [.t 4], c63_7⟩
set_option maxRecDepth 100000 in
theorem c63_ok : compF Tryd.prog Tryd.f63 = some c63 := by kernel_rfl
theorem a63 {args : List AV} {σ : ASt} {R : AV → ASt → Prop} (hl : args.length ≤ 17) (h : c63_7.wp Tryd.prog (RetQ [.t 4] R) (init args) σ) : ACalls Tryd.prog 63 args σ R := acalls_of Tryd.func63 c63_ok hl h

/-! 65: tabular/token.Errors -/
def c65_0 : ACode := .ops [
    ⟨(some 0), none, .q (.mv (.v (.sl .full []))), []⟩]
def c65_1 : ACode := .ops [
    ⟨(some 1), none, .q (.bsl 1 [(.v (.str [35, 68, 73, 86, 47, 48, 33])), (.v (.str [35, 78, 85, 77, 33])), (.v (.str [35, 86, 65, 76, 85, 69, 33])), (.v (.str [35, 82, 69, 70, 33])), (.v (.str [35, 78, 47, 65])), (.v (.str [35, 78, 65, 77, 69, 63])), (.v (.str [35, 67, 89, 67, 76, 69, 33]))]), []⟩,
    ⟨(some 0), none, .q (.mv (.t 1)), []⟩]
def c65_2 : ACode := .seq c65_1 .ret
def c65_3 : ACode := .seq c65_0 c65_2
@[go_sem] theorem c65_0_wp (P : Program) (Q : APost) (a : AFr) (σ : ASt) : c65_0.wp P Q a σ = ACode.wp P (.ops [
    ⟨(some 0), none, .q (.mv (.v (.sl .full []))), []⟩]) Q a σ := id rfl
@[go_sem] theorem c65_1_wp (P : Program) (Q : APost) (a : AFr) (σ : ASt) : c65_1.wp P Q a σ = ACode.wp P (.ops [
    ⟨(some 1), none, .q (.bsl 1 [(.v (.str [35, 68, 73, 86, 47, 48, 33])), (.v (.str [35, 78, 85, 77, 33])), (.v (.str [35, 86, 65, 76, 85, 69, 33])), (.v (.str [35, 82, 69, 70, 33])), (.v (.str [35, 78, 47, 65])), (.v (.str [35, 78, 65, 77, 69, 63])), (.v (.str [35, 67, 89, 67, 76, 69, 33]))]), []⟩,
    ⟨(some 0), none, .q (.mv (.t 1)), []⟩]) Q a σ := id rfl
@[go_sem] theorem c65_2_wp (P : Program) (Q : APost) (a : AFr) (σ : ASt) : c65_2.wp P Q a σ = ACode.wp P (.seq c65_1 .ret) Q a σ := id rfl
@[go_sem] theorem c65_3_wp (P : Program) (Q : APost) (a : AFr) (σ : ASt) : c65_3.wp P Q a σ = ACode.wp P (.seq c65_0 c65_2) Q a σ := id rfl
def c65 : AFn := ⟨2, [.t 0], c65_3⟩
set_option maxRecDepth 100000 in
theorem c65_ok : compF Tryd.prog Tryd.f65 = some c65 := by kernel_rfl
theorem a65 {args : List AV} {σ : ASt} {R : AV → ASt → Prop} (hl : args.length ≤ 2) (h : c65_3.wp Tryd.prog (RetQ [.t 0] R) (init args) σ) : ACalls Tryd.prog 65 args σ R := acalls_of Tryd.func65 c65_ok hl h

/-! 66: tabular/token.alike -/
def c66_0 : ACode := .ops [
    ⟨(some 2), none, .q (.mv (.v (.str []))), []⟩]
def c66_1 : ACode := .ops [
    ⟨(some 3), none, .q (.mv (.t 0)), []⟩]
def c66_2 : ACode := .ops [
    ⟨(some 5), none, .q (.bin .eql (.t 3) (.v (.int .i32 8804))), []⟩,
    ⟨(some 4), none, .q (.mv (.t 5)), []⟩]
def c66_3 : ACode := .ops [
    ⟨(some 2), none, .q (.mv (.v (.str [60, 61]))), []⟩]
def c66_4 : ACode := .seq c66_3 .ret
def c66_5 : ACode := .ops [
    ⟨(some 7), none, .q (.bin .eql (.t 3) (.v (.int .i32 8805))), []⟩,
    ⟨(some 6), none, .q (.mv (.t 7)), []⟩]
def c66_6 : ACode := .ops [
    ⟨(some 2), none, .q (.mv (.v (.str [62, 61]))), []⟩]
def c66_7 : ACode := .seq c66_6 .ret
def c66_8 : ACode := .ops [
    ⟨(some 9), none, .q (.bin .eql (.t 3) (.v (.int .i32 8800))), []⟩,
    ⟨(some 8), none, .q (.mv (.t 9)), []⟩]
def c66_9 : ACode := .ops [
    ⟨(some 2), none, .q (.mv (.v (.str [60, 62]))), []⟩]
def c66_10 : ACode := .seq c66_9 .ret
def c66_11 : ACode := .ops [
    ⟨(some 11), none, .q (.bin .eql (.t 3) (.v (.int .i32 215))), []⟩,
    ⟨(some 10), none, .q (.mv (.t 11)), []⟩]
def c66_12 : ACode := .ops [
    ⟨(some 2), none, .q (.mv (.v (.str [42]))), []⟩]
def c66_13 : ACode := .seq c66_12 .ret
def c66_14 : ACode := .ops [
    ⟨(some 13), none, .q (.bin .eql (.t 3) (.v (.int .i32 247))), []⟩,
    ⟨(some 12), none, .q (.mv (.t 13)), []⟩]
def c66_15 : ACode := .ops [
    ⟨(some 2), none, .q (.mv (.v (.str [47]))), []⟩]
def c66_16 : ACode := .seq c66_15 .ret
def c66_17 : ACode := .ops [
    ⟨(some 15), none, .q (.bin .eql (.t 3) (.v (.int .i32 8722))), []⟩,
    ⟨(some 14), none, .q (.mv (.t 15)), []⟩]
def c66_18 : ACode := .ops [
    ⟨(some 2), none, .q (.mv (.v (.str [45]))), []⟩]
def c66_19 : ACode := .seq c66_18 .ret
def c66_20 : ACode := .cond (.t 14) c66_19 .skip
def c66_21 : ACode := .seq c66_17 c66_20
def c66_22 : ACode := .cond (.t 12) c66_16 c66_21
def c66_23 : ACode := .seq c66_14 c66_22
def c66_24 : ACode := .cond (.t 10) c66_13 c66_23
def c66_25 : ACode := .seq c66_11 c66_24
def c66_26 : ACode := .cond (.t 8) c66_10 c66_25
def c66_27 : ACode := .seq c66_8 c66_26
def c66_28 : ACode := .cond (.t 6) c66_7 c66_27
def c66_29 : ACode := .seq c66_5 c66_28
def c66_30 : ACode := .cond (.t 4) c66_4 c66_29
def c66_31 : ACode := .seq c66_2 c66_30
def c66_32 : ACode := .block 0 c66_31
def c66_33 : ACode := .seq c66_1 c66_32
def c66_34 : ACode := .ops [
    ⟨(some 2), none, .q (.mv (.v (.str []))), []⟩]
def c66_35 : ACode := .seq c66_34 .ret
def c66_36 : ACode := .seq c66_33 c66_35
def c66_37 : ACode := .seq c66_0 c66_36
@[go_sem] theorem c66_0_wp (P : Program) (Q : APost) (a : AFr) (σ : ASt) : c66_0.wp P Q a σ = ACode.wp P (.ops [
    ⟨(some 2), none, .q (.mv (.v (.str []))), []⟩]) Q a σ := id rfl
@[go_sem] theorem c66_1_wp (P : Program) (Q : APost) (a : AFr) (σ : ASt) : c66_1.wp P Q a σ = ACode.wp P (.ops [
    ⟨(some 3), none, .q (.mv (.t 0)), []⟩]) Q a σ := id rfl
@[go_sem] theorem c66_2_wp (P : Program) (Q : APost) (a : AFr) (σ : ASt) : c66_2.wp P Q a σ = ACode.wp P (.ops [
    ⟨(some 5), none, .q (.bin .eql (.t 3) (.v (.int .i32 8804))), []⟩,
    ⟨(some 4), none, .q (.mv (.t 5)), []⟩]) Q a σ := id rfl
@[go_sem] theorem c66_3_wp (P : Program) (Q : APost) (a : AFr) (σ : ASt) : c66_3.wp P Q a σ = ACode.wp P (.ops [
    ⟨(some 2), none, .q (.mv (.v (.str [60, 61]))), []⟩]) Q a σ := id rfl
@[go_sem] theorem c66_4_wp (P : Program) (Q : APost) (a : AFr) (σ : ASt) : c66_4.wp P Q a σ = ACode.wp P (.seq c66_3 .ret) Q a σ := id rfl
@[go_sem] theorem c66_5_wp (P : Program) (Q : APost) (a : AFr) (σ : ASt) : c66_5.wp P Q a σ = ACode.wp P (.ops [
    ⟨(some 7), none, .q (.bin .eql (.t 3) (.v (.int .i32 8805))), []⟩,
    ⟨(some 6), none, .q (.mv (.t 7)), []⟩]) Q a σ := id rfl
@[go_sem] theorem c66_6_wp (P : Program) (Q : APost) (a : AFr) (σ : ASt) : c66_6.wp P Q a σ = ACode.wp P (.ops [
    ⟨(some 2), none, .q (.mv (.v (.str [62, 61]))), []⟩]) Q a σ := id rfl
@[go_sem] theorem c66_7_wp (P : Program) (Q : APost) (a : AFr) (σ : ASt) : c66_7.wp P Q a σ = ACode.wp P (.seq c66_6 .ret) Q a σ := id rfl
@[go_sem] theorem c66_8_wp (P : Program) (Q : APost) (a : AFr) (σ : ASt) : c66_8.wp P Q a σ = ACode.wp P (.ops [
    ⟨(some 9), none, .q (.bin .eql (.t 3) (.v (.int .i32 8800))), []⟩,
    ⟨(some 8), none, .q (.mv (.t 9)), []⟩]) Q a σ := id rfl
@[go_sem] theorem c66_9_wp (P : Program) (Q : APost) (a : AFr) (σ : ASt) : c66_9.wp P Q a σ = ACode.wp P (.ops [
    ⟨(some 2), none, .q (.mv (.v (.str [60, 62]))), []⟩]) Q a σ := id rfl
@[go_sem] theorem c66_10_wp (P : Program) (Q : APost) (a : AFr) (σ : ASt) : c66_10.wp P Q a σ = ACode.wp P (.seq c66_9 .ret) Q a σ := id rfl
@[go_sem] theorem c66_11_wp (P : Program) (Q : APost) (a : AFr) (σ : ASt) : c66_11.wp P Q a σ = ACode.wp P (.ops [
    ⟨(some 11), none, .q (.bin .eql (.t 3) (.v (.int .i32 215))), []⟩,
    ⟨(some 10), none, .q (.mv (.t 11)), []⟩]) Q a σ := id rfl
@[go_sem] theorem c66_12_wp (P : Program) (Q : APost) (a : AFr) (σ : ASt) : c66_12.wp P Q a σ = ACode.wp P (.ops [
    ⟨(some 2), none, .q (.mv (.v (.str [42]))), []⟩]) Q a σ := id rfl
@[go_sem] theorem c66_13_wp (P : Program) (Q : APost) (a : AFr) (σ : ASt) : c66_13.wp P Q a σ = ACode.wp P (.seq c66_12 .ret) Q a σ := id rfl
@[go_sem] theorem c66_14_wp (P : Program) (Q : APost) (a : AFr) (σ : ASt) : c66_14.wp P Q a σ = ACode.wp P (.ops [
    ⟨(some 13), none, .q (.bin .eql (.t 3) (.v (.int .i32 247))), []⟩,
    ⟨(some 12), none, .q (.mv (.t 13)), []⟩]) Q a σ := id rfl
@[go_sem] theorem c66_15_wp (P : Program) (Q : APost) (a : AFr) (σ : ASt) : c66_15.wp P Q a σ = ACode.wp P (.ops [
    ⟨(some 2), none, .q (.mv (.v (.str [47]))), []⟩]) Q a σ := id rfl
@[go_sem] theorem c66_16_wp (P : Program) (Q : APost) (a : AFr) (σ : ASt) : c66_16.wp P Q a σ = ACode.wp P (.seq c66_15 .ret) Q a σ := id rfl
@[go_sem] theorem c66_17_wp (P : Program) (Q : APost) (a : AFr) (σ : ASt) : c66_17.wp P Q a σ = ACode.wp P (.ops [
    ⟨(some 15), none, .q (.bin .eql (.t 3) (.v (.int .i32 8722))), []⟩,
    ⟨(some 14), none, .q (.mv (.t 15)), []⟩]) Q a σ := id rfl
@[go_sem] theorem c66_18_wp (P : Program) (Q : APost) (a : AFr) (σ : ASt) : c66_18.wp P Q a σ = ACode.wp P (.ops [
    ⟨(some 2), none, .q (.mv (.v (.str [45]))), []⟩]) Q a σ := id rfl
@[go_sem] theorem c66_19_wp (P : Program) (Q : APost) (a : AFr) (σ : ASt) : c66_19.wp P Q a σ = ACode.wp P (.seq c66_18 .ret) Q a σ := id rfl
@[go_sem] theorem c66_20_wp (P : Program) (Q : APost) (a : AFr) (σ : ASt) : c66_20.wp P Q a σ = ACode.wp P (.cond (.t 14) c66_19 .skip) Q a σ := id rfl
@[go_sem] theorem c66_21_wp (P : Program) (Q : APost) (a : AFr) (σ : ASt) : c66_21.wp P Q a σ = ACode.wp P (.seq c66_17 c66_20) Q a σ := id rfl
@[go_sem] theorem c66_22_wp (P : Program) (Q : APost) (a : AFr) (σ : ASt) : c66_22.wp P Q a σ = ACode.wp P (.cond (.t 12) c66_16 c66_21) Q a σ := id rfl
@[go_sem] theorem c66_23_wp (P : Program) (Q : APost) (a : AFr) (σ : ASt) : c66_23.wp P Q a σ = ACode.wp P (.seq c66_14 c66_22) Q a σ := id rfl
@[go_sem] theorem c66_24_wp (P : Program) (Q : APost) (a : AFr) (σ : ASt) : c66_24.wp P Q a σ = ACode.wp P (.cond (.t 10) c66_13 c66_23) Q a σ := id rfl
@[go_sem] theorem c66_25_wp (P : Program) (Q : APost) (a : AFr) (σ : ASt) : c66_25.wp P Q a σ = ACode.wp P (.seq c66_11 c66_24) Q a σ := id rfl
@[go_sem] theorem c66_26_wp (P : Program) (Q : APost) (a : AFr) (σ : ASt) : c66_26.wp P Q a σ = ACode.wp P (.cond (.t 8) c66_10 c66_25) Q a σ := id rfl
@[go_sem] theorem c66_27_wp (P : Program) (Q : APost) (a : AFr) (σ : ASt) : c66_27.wp P Q a σ = ACode.wp P (.seq c66_8 c66_26) Q a σ := id rfl
@[go_sem] theorem c66_28_wp (P : Program) (Q : APost) (a : AFr) (σ : ASt) : c66_28.wp P Q a σ = ACode.wp P (.cond (.t 6) c66_7 c66_27) Q a σ := id rfl
@[go_sem] theorem c66_29_wp (P : Program) (Q : APost) (a : AFr) (σ : ASt) : c66_29.wp P Q a σ = ACode.wp P (.seq c66_5 c66_28) Q a σ := id rfl
@[go_sem] theorem c66_30_wp (P : Program) (Q : APost) (a : AFr) (σ : ASt) : c66_30.wp P Q a σ = ACode.wp P (.cond (.t 4) c66_4 c66_29) Q a σ := id rfl
@[go_sem] theorem c66_31_wp (P : Program) (Q : APost) (a : AFr) (σ : ASt) : c66_31.wp P Q a σ = ACode.wp P (.seq c66_2 c66_30) Q a σ := id rfl
@[go_sem] theorem c66_32_wp (P : Program) (Q : APost) (a : AFr) (σ : ASt) : c66_32.wp P Q a σ = ACode.wp P (.block 0 c66_31) Q a σ := id rfl
@[go_sem] theorem c66_33_wp (P : Program) (Q : APost) (a : AFr) (σ : ASt) : c66_33.wp P Q a σ = ACode.wp P (.seq c66_1 c66_32) Q a σ := id rfl
@[go_sem] theorem c66_34_wp (P : Program) (Q : APost) (a : AFr) (σ : ASt) : c66_34.wp P Q a σ = ACode.wp P (.ops [
    ⟨(some 2), none, .q (.mv (.v (.str []))), []⟩]) Q a σ := id rfl
@[go_sem] theorem c66_35_wp (P : Program) (Q : APost) (a : AFr) (σ : ASt) : c66_35.wp P Q a σ = ACode.wp P (.seq c66_34 .ret) Q a σ := id rfl
@[go_sem] theorem c66_36_wp (P : Program) (Q : APost) (a : AFr) (σ : ASt) : c66_36.wp P Q a σ = ACode.wp P (.seq c66_33 c66_35) Q a σ := id rfl
@[go_sem] theorem c66_37_wp (P : Program) (Q : APost) (a : AFr) (σ : ASt) : c66_37.wp P Q a σ = ACode.wp P (.seq c66_0 c66_36) Q a σ := id rfl
def c66 : AFn := ⟨16, [.t 2], c66_37⟩
set_option maxRecDepth 100000 in
theorem c66_ok : compF Tryd.prog Tryd.f66 = some c66 := by kernel_rfl
theorem a66 {args : List AV} {σ : ASt} {R : AV → ASt → Prop} (hl : args.length ≤ 16) (h : c66_37.wp Tryd.prog (RetQ [.t 2] R) (init args) σ) : ACalls Tryd.prog 66 args σ R := acalls_of Tryd.func66 c66_ok hl h

/-! 77: strings.Cut -/
def c77_0 : ACode := .ops [
    ⟨(some 4), none, .q (.mv (.v (.str []))), []⟩,
    ⟨(some 5), none, .q (.mv (.v (.str []))), []⟩,
    ⟨(some 6), none, .q (.mv (.v (.bool false))), []⟩]
def c77_1 : ACode := .ops [
    ⟨(some 7), none, .q (.mv (.t 0)), []⟩,
    ⟨(some 8), none, .q (.mv (.t 1)), []⟩,
    ⟨(some 9), none, .e (.call 90 [(.t 7), (.t 8)]), []⟩,
    ⟨(some 10), none, .q (.ext 0 (.t 9)), []⟩,
    ⟨(some 11), none, .q (.ext 1 (.t 9)), []⟩,
    ⟨(some 12), none, .q (.ext 2 (.t 9)), []⟩,
    ⟨(some 4), none, .q (.mv (.t 10)), []⟩,
    ⟨(some 5), none, .q (.mv (.t 11)), []⟩,
    ⟨(some 6), none, .q (.mv (.t 12)), []⟩]
def c77_2 : ACode := .seq c77_1 .ret
def c77_3 : ACode := .seq c77_0 c77_2
@[go_sem] theorem c77_0_wp (P : Program) (Q : APost) (a : AFr) (σ : ASt) : c77_0.wp P Q a σ = ACode.wp P (.ops [
    ⟨(some 4), none, .q (.mv (.v (.str []))), []⟩,
    ⟨(some 5), none, .q (.mv (.v (.str []))), []⟩,
    ⟨(some 6), none, .q (.mv (.v (.bool false))), []⟩]) Q a σ := id rfl
@[go_sem] theorem c77_1_wp (P : Program) (Q : APost) (a : AFr) (σ : ASt) : c77_1.wp P Q a σ = ACode.wp P (.ops [
    ⟨(some 7), none, .q (.mv (.t 0)), []⟩,
    ⟨(some 8), none, .q (.mv (.t 1)), []⟩,
    ⟨(some 9), none, .e (.call 90 [(.t 7), (.t 8)]), []⟩,
    ⟨(some 10), none, .q (.ext 0 (.t 9)), []⟩,
    ⟨(some 11), none, .q (.ext 1 (.t 9)), []⟩,
    ⟨(some 12), none, .q (.ext 2 (.t 9)), []⟩,
    ⟨(some 4), none, .q (.mv (.t 10)), []⟩,
    ⟨(some 5), none, .q (.mv (.t 11)), []⟩,
    ⟨(some 6), none, .q (.mv (.t 12)), []⟩]) Q a σ := id rfl
@[go_sem] theorem c77_2_wp (P : Program) (Q : APost) (a : AFr) (σ : ASt) : c77_2.wp P Q a σ = ACode.wp P (.seq c77_1 .ret) Q a σ := id rfl
@[go_sem] theorem c77_3_wp (P : Program) (Q : APost) (a : AFr) (σ : ASt) : c77_3.wp P Q a σ = ACode.wp P (.seq c77_0 c77_2) Q a σ := id rfl
def c77 : AFn := ⟨13, [.t 4, .t 5, .t 6], c77_3⟩
set_option maxRecDepth 100000 in
theorem c77_ok : compF Tryd.prog Tryd.f77 = some c77 := by kernel_rfl
theorem a77 {args : List AV} {σ : ASt} {R : AV → ASt → Prop} (hl : args.length ≤ 13) (h : c77_3.wp Tryd.prog (RetQ [.t 4, .t 5, .t 6] R) (init args) σ) : ACalls Tryd.prog 77 args σ R := acalls_of Tryd.func77 c77_ok hl h

/-! 78: tabular/token.digit -/
def c78_0 : ACode := .ops [
    ⟨(some 2), none, .q (.mv (.v (.bool false))), []⟩]
def c78_1 : ACode := .ops [
    ⟨(some 3), none, .q (.mv (.t 0)), []⟩,
    ⟨(some 4), none, .q (.bin .geq (.t 3) (.v (.int .u8 48))), []⟩,
    ⟨(some 5), none, .q (.mv (.t 4)), []⟩,
    ⟨(some 6), (some (5, true)), .q (.mv (.t 0)), []⟩,
    ⟨(some 7), (some (5, true)), .q (.bin .leq (.t 6) (.v (.int .u8 57))), []⟩,
    ⟨(some 8), none, .q (.pick (.t 5) (.t 7) (.v (.bool false))), []⟩,
    ⟨(some 2), none, .q (.mv (.t 8)), []⟩]
def c78_2 : ACode := .seq c78_1 .ret
def c78_3 : ACode := .seq c78_0 c78_2
@[go_sem] theorem c78_0_wp (P : Program) (Q : APost) (a : AFr) (σ : ASt) : c78_0.wp P Q a σ = ACode.wp P (.ops [
    ⟨(some 2), none, .q (.mv (.v (.bool false))), []⟩]) Q a σ := id rfl
@[go_sem] theorem c78_1_wp (P : Program) (Q : APost) (a : AFr) (σ : ASt) : c78_1.wp P Q a σ = ACode.wp P (.ops [
    ⟨(some 3), none, .q (.mv (.t 0)), []⟩,
    ⟨(some 4), none, .q (.bin .geq (.t 3) (.v (.int .u8 48))), []⟩,
    ⟨(some 5), none, .q (.mv (.t 4)), []⟩,
    ⟨(some 6), (some (5, true)), .q (.mv (.t 0)), []⟩,
    ⟨(some 7), (some (5, true)), .q (.bin .leq (.t 6) (.v (.int .u8 57))), []⟩,
    ⟨(some 8), none, .q (.pick (.t 5) (.t 7) (.v (.bool false))), []⟩,
    ⟨(some 2), none, .q (.mv (.t 8)), []⟩]) Q a σ := id rfl
@[go_sem] theorem c78_2_wp (P : Program) (Q : APost) (a : AFr) (σ : ASt) : c78_2.wp P Q a σ = ACode.wp P (.seq c78_1 .ret) Q a σ := id rfl
@[go_sem] theorem c78_3_wp (P : Program) (Q : APost) (a : AFr) (σ : ASt) : c78_3.wp P Q a σ = ACode.wp P (.seq c78_0 c78_2) Q a σ := id rfl
def c78 : AFn := ⟨9, [.t 2], c78_3⟩
set_option maxRecDepth 100000 in
theorem c78_ok : compF Tryd.prog Tryd.f78 = some c78 := by kernel_rfl
theorem a78 {args : List AV} {σ : ASt} {R : AV → ASt → Prop} (hl : args.length ≤ 9) (h : c78_3.wp Tryd.prog (RetQ [.t 2] R) (init args) σ) : ACalls Tryd.prog 78 args σ R := acalls_of Tryd.func78 c78_ok hl h

/-! 80: unicode/utf8.AppendRune -/
def c80_0 : ACode := .ops [
    ⟨(some 4), none, .q (.mv (.v (.sl .full []))), []⟩]
def c80_1 : ACode := .ops [
    ⟨(some 5), none, .q (.mv (.t 1)), []⟩,
    ⟨(some 6), none, .q (.conv .u32 (.t 5)), []⟩,
    ⟨(some 7), none, .q (.bin .leq (.t 6) (.v (.int .u32 127))), []⟩]
def c80_2 : ACode := .ops [
    ⟨(some 8), none, .q (.mv (.t 0)), []⟩,
    ⟨(some 9), none, .q (.mv (.t 1)), []⟩,
    ⟨(some 10), none, .q (.conv .u8 (.t 9)), []⟩,
    ⟨(some 11), none, .q (.bsl 1 [(.t 10)]), []⟩,
    ⟨(some 12), none, .e (.app 5 1 1 [(.int .u8 0)] (.t 8) (.t 11)), []⟩,
    ⟨(some 4), none, .q (.mv (.t 12)), []⟩]
def c80_3 : ACode := .seq c80_2 .ret
def c80_4 : ACode := .cond (.t 7) c80_3 .skip
def c80_5 : ACode := .seq c80_1 c80_4
def c80_6 : ACode := .ops [
    ⟨(some 13), none, .q (.mv (.t 0)), []⟩,
    ⟨(some 14), none, .q (.mv (.t 1)), []⟩,
    ⟨(some 15), none, .e (.call 92 [(.t 13), (.t 14)]), []⟩,
    ⟨(some 4), none, .q (.mv (.t 15)), []⟩]
def c80_7 : ACode := .seq c80_6 .ret
def c80_8 : ACode := .seq c80_5 c80_7
def c80_9 : ACode := .seq c80_0 c80_8
@[go_sem] theorem c80_0_wp (P : Program) (Q : APost) (a : AFr) (σ : ASt) : c80_0.wp P Q a σ = ACode.wp P (.ops [
    ⟨(some 4), none, .q (.mv (.v (.sl .full []))), []⟩]) Q a σ := id rfl
@[go_sem] theorem c80_1_wp (P : Program) (Q : APost) (a : AFr) (σ : ASt) : c80_1.wp P Q a σ = ACode.wp P (.ops [
    ⟨(some 5), none, .q (.mv (.t 1)), []⟩,
    ⟨(some 6), none, .q (.conv .u32 (.t 5)), []⟩,
    ⟨(some 7), none, .q (.bin .leq (.t 6) (.v (.int .u32 127))), []⟩]) Q a σ := id rfl
@[go_sem] theorem c80_2_wp (P : Program) (Q : APost) (a : AFr) (σ : ASt) : c80_2.wp P Q a σ = ACode.wp P (.ops [
    ⟨(some 8), none, .q (.mv (.t 0)), []⟩,
    ⟨(some 9), none, .q (.mv (.t 1)), []⟩,
    ⟨(some 10), none, .q (.conv .u8 (.t 9)), []⟩,
    ⟨(some 11), none, .q (.bsl 1 [(.t 10)]), []⟩,
    ⟨(some 12), none, .e (.app 5 1 1 [(.int .u8 0)] (.t 8) (.t 11)), []⟩,
    ⟨(some 4), none, .q (.mv (.t 12)), []⟩]) Q a σ := id rfl
@[go_sem] theorem c80_3_wp (P : Program) (Q : APost) (a : AFr) (σ : ASt) : c80_3.wp P Q a σ = ACode.wp P (.seq c80_2 .ret) Q a σ := id rfl
@[go_sem] theorem c80_4_wp (P : Program) (Q : APost) (a : AFr) (σ : ASt) : c80_4.wp P Q a σ = ACode.wp P (.cond (.t 7) c80_3 .skip) Q a σ := id rfl
@[go_sem] theorem c80_5_wp (P : Program) (Q : APost) (a : AFr) (σ : ASt) : c80_5.wp P Q a σ = ACode.wp P (.seq c80_1 c80_4) Q a σ := id rfl
@[go_sem] theorem c80_6_wp (P : Program) (Q : APost) (a : AFr) (σ : ASt) : c80_6.wp P Q a σ = ACode.wp P (.ops [
    ⟨(some 13), none, .q (.mv (.t 0)), []⟩,
    ⟨(some 14), none, .q (.mv (.t 1)), []⟩,
    ⟨(some 15), none, .e (.call 92 [(.t 13), (.t 14)]), []⟩,
    ⟨(some 4), none, .q (.mv (.t 15)), []⟩]) Q a σ := id rfl
@[go_sem] theorem c80_7_wp (P : Program) (Q : APost) (a : AFr) (σ : ASt) : c80_7.wp P Q a σ = ACode.wp P (.seq c80_6 .ret) Q a σ := id rfl
@[go_sem] theorem c80_8_wp (P : Program) (Q : APost) (a : AFr) (σ : ASt) : c80_8.wp P Q a σ = ACode.wp P (.seq c80_5 c80_7) Q a σ := id rfl
@[go_sem] theorem c80_9_wp (P : Program) (Q : APost) (a : AFr) (σ : ASt) : c80_9.wp P Q a σ = ACode.wp P (.seq c80_0 c80_8) Q a σ := id rfl
def c80 : AFn := ⟨16, [.t 4], c80_9⟩
set_option maxRecDepth 100000 in
theorem c80_ok : compF Tryd.prog Tryd.f80 = some c80 := by kernel_rfl
theorem a80 {args : List AV} {σ : ASt} {R : AV → ASt → Prop} (hl : args.length ≤ 16) (h : c80_9.wp Tryd.prog (RetQ [.t 4] R) (init args) σ) : ACalls Tryd.prog 80 args σ R := acalls_of Tryd.func80 c80_ok hl h

/-! 90: internal/stringslite.Cut -/
def c90_0 : ACode := .ops [
    ⟨(some 4), none, .q (.mv (.v (.str []))), []⟩,
    ⟨(some 5), none, .q (.mv (.v (.str []))), []⟩,
    ⟨(some 6), none, .q (.mv (.v (.bool false))), []⟩]
def c90_1 : ACode := .ops [
    ⟨(some 8), none, .q (.mv (.t 0)), []⟩,
    ⟨(some 9), none, .q (.mv (.t 1)), []⟩,
    ⟨(some 10), none, .e (.call 84 [(.t 8), (.t 9)]), []⟩,
    ⟨(some 7), none, .q (.mv (.t 10)), []⟩]
def c90_2 : ACode := .ops [
    ⟨(some 11), none, .q (.mv (.t 7)), []⟩,
    ⟨(some 12), none, .q (.bin .geq (.t 11) (.v (.int .i64 0))), []⟩]
def c90_3 : ACode := .ops [
    ⟨(some 13), none, .q (.mv (.t 0)), []⟩,
    ⟨(some 14), none, .q (.mv (.t 7)), []⟩,
    ⟨(some 15), none, .q (.slto (true, 0) (.t 13) (.t 14)), []⟩,
    ⟨(some 16), none, .q (.mv (.t 0)), []⟩,
    ⟨(some 17), none, .q (.mv (.t 7)), []⟩,
    ⟨(some 18), none, .q (.mv (.t 1)), []⟩,
    ⟨(some 19), none, .q (.lenS (.t 18)), []⟩,
    ⟨(some 20), none, .q (.bin .add (.t 17) (.t 19)), []⟩,
    ⟨(some 21), none, .q (.slfrom (true, 0) (.t 16) (.t 20)), []⟩,
    ⟨(some 4), none, .q (.mv (.t 15)), []⟩,
    ⟨(some 5), none, .q (.mv (.t 21)), []⟩,
    ⟨(some 6), none, .q (.mv (.v (.bool true))), []⟩]
def c90_4 : ACode := .seq c90_3 .ret
def c90_5 : ACode := .cond (.t 12) c90_4 .skip
def c90_6 : ACode := .seq c90_2 c90_5
def c90_7 : ACode := .seq c90_1 c90_6
def c90_8 : ACode := .ops [
    ⟨(some 22), none, .q (.mv (.t 0)), []⟩,
    ⟨(some 4), none, .q (.mv (.t 22)), []⟩,
    ⟨(some 5), none, .q (.mv (.v (.str []))), []⟩,
    ⟨(some 6), none, .q (.mv (.v (.bool false))), []⟩]
def c90_9 : ACode := .seq c90_8 .ret
def c90_10 : ACode := .seq c90_7 c90_9
def c90_11 : ACode := .seq c90_0 c90_10
@[go_sem] theorem c90_0_wp (P : Program) (Q : APost) (a : AFr) (σ : ASt) : c90_0.wp P Q a σ = ACode.wp P (.ops [
    ⟨(some 4), none, .q (.mv (.v (.str []))), []⟩,
    ⟨(some 5), none, .q (.mv (.v (.str []))), []⟩,
    ⟨(some 6), none, .q (.mv (.v (.bool false))), []⟩]) Q a σ := id rfl
@[go_sem] theorem c90_1_wp (P : Program) (Q : APost) (a : AFr) (σ : ASt) : c90_1.wp P Q a σ = ACode.wp P (.ops [
    ⟨(some 8), none, .q (.mv (.t 0)), []⟩,
    ⟨(some 9), none, .q (.mv (.t 1)), []⟩,
    ⟨(some 10), none, .e (.call 84 [(.t 8), (.t 9)]), []⟩,
    ⟨(some 7), none, .q (.mv (.t 10)), []⟩]) Q a σ := id rfl
@[go_sem] theorem c90_2_wp (P : Program) (Q : APost) (a : AFr) (σ : ASt) : c90_2.wp P Q a σ = ACode.wp P (.ops [
    ⟨(some 11), none, .q (.mv (.t 7)), []⟩,
    ⟨(some 12), none, .q (.bin .geq (.t 11) (.v (.int .i64 0))), []⟩]) Q a σ := id rfl
@[go_sem] theorem c90_3_wp (P : Program) (Q : APost) (a : AFr) (σ : ASt) : c90_3.wp P Q a σ = ACode.wp P (.ops [
    ⟨(some 13), none, .q (.mv (.t 0)), []⟩,
    ⟨(some 14), none, .q (.mv (.t 7)), []⟩,
    ⟨(some 15), none, .q (.slto (true, 0) (.t 13) (.t 14)), []⟩,
    ⟨(some 16), none, .q (.mv (.t 0)), []⟩,
    ⟨(some 17), none, .q (.mv (.t 7)), []⟩,
    ⟨(some 18), none, .q (.mv (.t 1)), []⟩,
    ⟨(some 19), none, .q (.lenS (.t 18)), []⟩,
    ⟨(some 20), none, .q (.bin .add (.t 17) (.t 19)), []⟩,
    ⟨(some 21), none, .q (.slfrom (true, 0) (.t 16) (.t 20)), []⟩,
    ⟨(some 4), none, .q (.mv (.t 15)), []⟩,
    ⟨(some 5), none, .q (.mv (.t 21)), []⟩,
    ⟨(some 6), none, .q (.mv (.v (.bool true))), []⟩]) Q a σ := id rfl
@[go_sem] theorem c90_4_wp (P : Program) (Q : APost) (a : AFr) (σ : ASt) : c90_4.wp P Q a σ = ACode.wp P (.seq c90_3 .ret) Q a σ := id rfl
@[go_sem] theorem c90_5_wp (P : Program) (Q : APost) (a : AFr) (σ : ASt) : c90_5.wp P Q a σ = ACode.wp P (.cond (.t 12) c90_4 .skip) Q a σ := id rfl
@[go_sem] theorem c90_6_wp (P : Program) (Q : APost) (a : AFr) (σ : ASt) : c90_6.wp P Q a σ = ACode.wp P (.seq c90_2 c90_5) Q a σ := id rfl
@[go_sem] theorem c90_7_wp (P : Program) (Q : APost) (a : AFr) (σ : ASt) : c90_7.wp P Q a σ = ACode.wp P (.seq c90_1 c90_6) Q a σ := id rfl
@[go_sem] theorem c90_8_wp (P : Program) (Q : APost) (a : AFr) (σ : ASt) : c90_8.wp P Q a σ = ACode.wp P (.ops [
    ⟨(some 22), none, .q (.mv (.t 0)), []⟩,
    ⟨(some 4), none, .q (.mv (.t 22)), []⟩,
    ⟨(some 5), none, .q (.mv (.v (.str []))), []⟩,
    ⟨(some 6), none, .q (.mv (.v (.bool false))), []⟩]) Q a σ := id rfl
@[go_sem] theorem c90_9_wp (P : Program) (Q : APost) (a : AFr) (σ : ASt) : c90_9.wp P Q a σ = ACode.wp P (.seq c90_8 .ret) Q a σ := id rfl
@[go_sem] theorem c90_10_wp (P : Program) (Q : APost) (a : AFr) (σ : ASt) : c90_10.wp P Q a σ = ACode.wp P (.seq c90_7 c90_9) Q a σ := id rfl
@[go_sem] theorem c90_11_wp (P : Program) (Q : APost) (a : AFr) (σ : ASt) : c90_11.wp P Q a σ = ACode.wp P (.seq c90_0 c90_10) Q a σ := id rfl
def c90 : AFn := ⟨23, [.t 4, .t 5, .t 6], c90_11⟩
set_option maxRecDepth 100000 in
theorem c90_ok : compF Tryd.prog Tryd.f90 = some c90 := by kernel_rfl
theorem a90 {args : List AV} {σ : ASt} {R : AV → ASt → Prop} (hl : args.length ≤ 23) (h : c90_11.wp Tryd.prog (RetQ [.t 4, .t 5, .t 6] R) (init args) σ) : ACalls Tryd.prog 90 args σ R := acalls_of Tryd.func90 c90_ok hl h

/-! 92: unicode/utf8.appendRuneNonASCII -/
def c92_0 : ACode := .ops [
    ⟨(some 4), none, .q (.mv (.v (.sl .full []))), []⟩]
def c92_1 : ACode := .ops [
    ⟨(some 6), none, .q (.mv (.t 1)), []⟩,
    ⟨(some 7), none, .q (.conv .u32 (.t 6)), []⟩,
    ⟨(some 5), none, .q (.mv (.t 7)), []⟩]
def c92_2 : ACode := .ops [
    ⟨(some 12), none, .q (.mv (.t 5)), []⟩,
    ⟨(some 13), none, .q (.bin .leq (.t 12) (.v (.int .u32 2047))), []⟩,
    ⟨(some 11), none, .q (.mv (.t 13)), []⟩]
def c92_3 : ACode := .ops [
    ⟨(some 14), none, .q (.mv (.t 0)), []⟩,
    ⟨(some 15), none, .q (.mv (.t 1)), []⟩,
    ⟨(some 16), none, .q (.bin .shr (.t 15) (.v (.int .u64 6))), []⟩,
    ⟨(some 17), none, .q (.conv .u8 (.t 16)), []⟩,
    ⟨(some 18), none, .q (.bin .or (.v (.int .u8 192)) (.t 17)), []⟩,
    ⟨(some 19), none, .q (.mv (.t 1)), []⟩,
    ⟨(some 20), none, .q (.conv .u8 (.t 19)), []⟩,
    ⟨(some 21), none, .q (.bin .and (.t 20) (.v (.int .u8 63))), []⟩,
    ⟨(some 22), none, .q (.bin .or (.v (.int .u8 128)) (.t 21)), []⟩,
    ⟨(some 23), none, .q (.bsl 1 [(.t 18), (.t 22)]), []⟩,
    ⟨(some 24), none, .e (.app 5 1 1 [(.int .u8 0)] (.t 14) (.t 23)), []⟩,
    ⟨(some 4), none, .q (.mv (.t 24)), []⟩]
def c92_4 : ACode := .seq c92_3 .ret
def c92_5 : ACode := .ops [
    ⟨(some 26), none, .q (.mv (.t 5)), []⟩,
    ⟨(some 27), none, .q (.bin .lss (.t 26) (.v (.int .u32 55296))), []⟩,
    ⟨(some 25), none, .q (.mv (.t 27)), []⟩]
def c92_6 : ACode := .ops [
    ⟨(some 28), none, .q (.mv (.t 5)), []⟩,
    ⟨(some 29), none, .q (.bin .lss (.v (.int .u32 57343)) (.t 28)), []⟩,
    ⟨(some 30), none, .q (.mv (.t 29)), []⟩,
    ⟨(some 31), (some (30, true)), .q (.mv (.t 5)), []⟩,
    ⟨(some 32), (some (30, true)), .q (.bin .leq (.t 31) (.v (.int .u32 65535))), []⟩,
    ⟨(some 33), none, .q (.pick (.t 30) (.t 32) (.v (.bool false))), []⟩,
    ⟨(some 25), none, .q (.mv (.t 33)), []⟩]
def c92_7 : ACode := .cond (.t 25) .skip c92_6
def c92_8 : ACode := .seq c92_5 c92_7
def c92_9 : ACode := .ops [
    ⟨(some 34), none, .q (.mv (.t 0)), []⟩,
    ⟨(some 35), none, .q (.mv (.t 1)), []⟩,
    ⟨(some 36), none, .q (.bin .shr (.t 35) (.v (.int .u64 12))), []⟩,
    ⟨(some 37), none, .q (.conv .u8 (.t 36)), []⟩,
    ⟨(some 38), none, .q (.bin .or (.v (.int .u8 224)) (.t 37)), []⟩,
    ⟨(some 39), none, .q (.mv (.t 1)), []⟩,
    ⟨(some 40), none, .q (.bin .shr (.t 39) (.v (.int .u64 6))), []⟩,
    ⟨(some 41), none, .q (.conv .u8 (.t 40)), []⟩,
    ⟨(some 42), none, .q (.bin .and (.t 41) (.v (.int .u8 63))), []⟩,
    ⟨(some 43), none, .q (.bin .or (.v (.int .u8 128)) (.t 42)), []⟩,
    ⟨(some 44), none, .q (.mv (.t 1)), []⟩,
    ⟨(some 45), none, .q (.conv .u8 (.t 44)), []⟩,
    ⟨(some 46), none, .q (.bin .and (.t 45) (.v (.int .u8 63))), []⟩,
    ⟨(some 47), none, .q (.bin .or (.v (.int .u8 128)) (.t 46)), []⟩,
    ⟨(some 48), none, .q (.bsl 1 [(.t 38), (.t 43), (.t 47)]), []⟩,
    ⟨(some 49), none, .e (.app 5 1 1 [(.int .u8 0)] (.t 34) (.t 48)), []⟩,
    ⟨(some 4), none, .q (.mv (.t 49)), []⟩]
def c92_10 : ACode := .seq c92_9 .ret
def c92_11 : ACode := .ops [
    ⟨(some 51), none, .q (.mv (.t 5)), []⟩,
    ⟨(some 52), none, .q (.bin .gtr (.t 51) (.v (.int .u32 65535))), []⟩,
    ⟨(some 53), none, .q (.mv (.t 52)), []⟩,
    ⟨(some 54), (some (53, true)), .q (.mv (.t 5)), []⟩,
    ⟨(some 55), (some (53, true)), .q (.bin .leq (.t 54) (.v (.int .u32 1114111))), []⟩,
    ⟨(some 56), none, .q (.pick (.t 53) (.t 55) (.v (.bool false))), []⟩,
    ⟨(some 50), none, .q (.mv (.t 56)), []⟩]
def c92_12 : ACode := .ops [
    ⟨(some 57), none, .q (.mv (.t 0)), []⟩,
    ⟨(some 58), none, .q (.mv (.t 1)), []⟩,
    ⟨(some 59), none, .q (.bin .shr (.t 58) (.v (.int .u64 18))), []⟩,
    ⟨(some 60), none, .q (.conv .u8 (.t 59)), []⟩,
    ⟨(some 61), none, .q (.bin .or (.v (.int .u8 240)) (.t 60)), []⟩,
    ⟨(some 62), none, .q (.mv (.t 1)), []⟩,
    ⟨(some 63), none, .q (.bin .shr (.t 62) (.v (.int .u64 12))), []⟩,
    ⟨(some 64), none, .q (.conv .u8 (.t 63)), []⟩,
    ⟨(some 65), none, .q (.bin .and (.t 64) (.v (.int .u8 63))), []⟩,
    ⟨(some 66), none, .q (.bin .or (.v (.int .u8 128)) (.t 65)), []⟩,
    ⟨(some 67), none, .q (.mv (.t 1)), []⟩,
    ⟨(some 68), none, .q (.bin .shr (.t 67) (.v (.int .u64 6))), []⟩,
    ⟨(some 69), none, .q (.conv .u8 (.t 68)), []⟩,
    ⟨(some 70), none, .q (.bin .and (.t 69) (.v (.int .u8 63))), []⟩,
    ⟨(some 71), none, .q (.bin .or (.v (.int .u8 128)) (.t 70)), []⟩,
    ⟨(some 72), none, .q (.mv (.t 1)), []⟩,
    ⟨(some 73), none, .q (.conv .u8 (.t 72)), []⟩,
    ⟨(some 74), none, .q (.bin .and (.t 73) (.v (.int .u8 63))), []⟩,
    ⟨(some 75), none, .q (.bin .or (.v (.int .u8 128)) (.t 74)), []⟩,
    ⟨(some 76), none, .q (.bsl 1 [(.t 61), (.t 66), (.t 71), (.t 75)]), []⟩,
    ⟨(some 77), none, .e (.app 5 1 1 [(.int .u8 0)] (.t 57) (.t 76)), []⟩,
    ⟨(some 4), none, .q (.mv (.t 77)), []⟩]
def c92_13 : ACode := .seq c92_12 .ret
def c92_14 : ACode := .ops [
    ⟨(some 8), none, .q (.mv (.t 0)), []⟩,
    ⟨(some 9), none, .q (.bsl 1 [(.v (.int .u8 239)), (.v (.int .u8 191)), (.v (.int .u8 189))]), []⟩,
    ⟨(some 10), none, .e (.app 5 1 1 [(.int .u8 0)] (.t 8) (.t 9)), []⟩,
    ⟨(some 4), none, .q (.mv (.t 10)), []⟩]
def c92_15 : ACode := .seq c92_14 .ret
def c92_16 : ACode := .cond (.t 50) c92_13 c92_15
def c92_17 : ACode := .seq c92_11 c92_16
def c92_18 : ACode := .cond (.t 25) c92_10 c92_17
def c92_19 : ACode := .seq c92_8 c92_18
def c92_20 : ACode := .cond (.t 11) c92_4 c92_19
def c92_21 : ACode := .seq c92_2 c92_20
def c92_22 : ACode := .block 0 c92_21
def c92_23 : ACode := .seq c92_1 c92_22
def c92_24 : ACode := .seq c92_0 c92_23
@[go_sem] theorem c92_0_wp (P : Program) (Q : APost) (a : AFr) (σ : ASt) : c92_0.wp P Q a σ = ACode.wp P (.ops [
    ⟨(some 4), none, .q (.mv (.v (.sl .full []))), []⟩]) Q a σ := id rfl
@[go_sem] theorem c92_1_wp (P : Program) (Q : APost) (a : AFr) (σ : ASt) : c92_1.wp P Q a σ = ACode.wp P (.ops [
    ⟨(some 6), none, .q (.mv (.t 1)), []⟩,
    ⟨(some 7), none, .q (.conv .u32 (.t 6)), []⟩,
    ⟨(some 5), none, .q (.mv (.t 7)), []⟩]) Q a σ := id rfl
@[go_sem] theorem c92_2_wp (P : Program) (Q : APost) (a : AFr) (σ : ASt) : c92_2.wp P Q a σ = ACode.wp P (.ops [
    ⟨(some 12), none, .q (.mv (.t 5)), []⟩,
    ⟨(some 13), none, .q (.bin .leq (.t 12) (.v (.int .u32 2047))), []⟩,
    ⟨(some 11), none, .q (.mv (.t 13)), []⟩]) Q a σ := id rfl
@[go_sem] theorem c92_3_wp (P : Program) (Q : APost) (a : AFr) (σ : ASt) : c92_3.wp P Q a σ = ACode.wp P (.ops [
    ⟨(some 14), none, .q (.mv (.t 0)), []⟩,
    ⟨(some 15), none, .q (.mv (.t 1)), []⟩,
    ⟨(some 16), none, .q (.bin .shr (.t 15) (.v (.int .u64 6))), []⟩,
    ⟨(some 17), none, .q (.conv .u8 (.t 16)), []⟩,
    ⟨(some 18), none, .q (.bin .or (.v (.int .u8 192)) (.t 17)), []⟩,
    ⟨(some 19), none, .q (.mv (.t 1)), []⟩,
    ⟨(some 20), none, .q (.conv .u8 (.t 19)), []⟩,
    ⟨(some 21), none, .q (.bin .and (.t 20) (.v (.int .u8 63))), []⟩,
    ⟨(some 22), none, .q (.bin .or (.v (.int .u8 128)) (.t 21)), []⟩,
    ⟨(some 23), none, .q (.bsl 1 [(.t 18), (.t 22)]), []⟩,
    ⟨(some 24), none, .e (.app 5 1 1 [(.int .u8 0)] (.t 14) (.t 23)), []⟩,
    ⟨(some 4), none, .q (.mv (.t 24)), []⟩]) Q a σ := id rfl
@[go_sem] theorem c92_4_wp (P : Program) (Q : APost) (a : AFr) (σ : ASt) : c92_4.wp P Q a σ = ACode.wp P (.seq c92_3 .ret) Q a σ := id rfl
@[go_sem] theorem c92_5_wp (P : Program) (Q : APost) (a : AFr) (σ : ASt) : c92_5.wp P Q a σ = ACode.wp P (.ops [
    ⟨(some 26), none, .q (.mv (.t 5)), []⟩,
    ⟨(some 27), none, .q (.bin .lss (.t 26) (.v (.int .u32 55296))), []⟩,
    ⟨(some 25), none, .q (.mv (.t 27)), []⟩]) Q a σ := id rfl
@[go_sem] theorem c92_6_wp (P : Program) (Q : APost) (a : AFr) (σ : ASt) : c92_6.wp P Q a σ = ACode.wp P (.ops [
    ⟨(some 28), none, .q (.mv (.t 5)), []⟩,
    ⟨(some 29), none, .q (.bin .lss (.v (.int .u32 57343)) (.t 28)), []⟩,
    ⟨(some 30), none, .q (.mv (.t 29)), []⟩,
    ⟨(some 31), (some (30, true)), .q (.mv (.t 5)), []⟩,
    ⟨(some 32), (some (30, true)), .q (.bin .leq (.t 31) (.v (.int .u32 65535))), []⟩,
    ⟨(some 33), none, .q (.pick (.t 30) (.t 32) (.v (.bool false))), []⟩,
    ⟨(some 25), none, .q (.mv (.t 33)), []⟩]) Q a σ := id rfl
@[go_sem] theorem c92_7_wp (P : Program) (Q : APost) (a : AFr) (σ : ASt) : c92_7.wp P Q a σ = ACode.wp P (.cond (.t 25) .skip c92_6) Q a σ := id rfl
@[go_sem] theorem c92_8_wp (P : Program) (Q : APost) (a : AFr) (σ : ASt) : c92_8.wp P Q a σ = ACode.wp P (.seq c92_5 c92_7) Q a σ := id rfl
@[go_sem] theorem c92_9_wp (P : Program) (Q : APost) (a : AFr) (σ : ASt) : c92_9.wp P Q a σ = ACode.wp P (.ops [
    ⟨(some 34), none, .q (.mv (.t 0)), []⟩,
    ⟨(some 35), none, .q (.mv (.t 1)), []⟩,
    ⟨(some 36), none, .q (.bin .shr (.t 35) (.v (.int .u64 12))), []⟩,
    ⟨(some 37), none, .q (.conv .u8 (.t 36)), []⟩,
    ⟨(some 38), none, .q (.bin .or (.v (.int .u8 224)) (.t 37)), []⟩,
    ⟨(some 39), none, .q (.mv (.t 1)), []⟩,
    ⟨(some 40), none, .q (.bin .shr (.t 39) (.v (.int .u64 6))), []⟩,
    ⟨(some 41), none, .q (.conv .u8 (.t 40)), []⟩,
    ⟨(some 42), none, .q (.bin .and (.t 41) (.v (.int .u8 63))), []⟩,
    ⟨(some 43), none, .q (.bin .or (.v (.int .u8 128)) (.t 42)), []⟩,
    ⟨(some 44), none, .q (.mv (.t 1)), []⟩,
    ⟨(some 45), none, .q (.conv .u8 (.t 44)), []⟩,
    ⟨(some 46), none, .q (.bin .and (.t 45) (.v (.int .u8 63))), []⟩,
    ⟨(some 47), none, .q (.bin .or (.v (.int .u8 128)) (.t 46)), []⟩,
    ⟨(some 48), none, .q (.bsl 1 [(.t 38), (.t 43), (.t 47)]), []⟩,
    ⟨(some 49), none, .e (.app 5 1 1 [(.int .u8 0)] (.t 34) (.t 48)), []⟩,
    ⟨(some 4), none, .q (.mv (.t 49)), []⟩]) Q a σ := id rfl
@[go_sem] theorem c92_10_wp (P : Program) (Q : APost) (a : AFr) (σ : ASt) : c92_10.wp P Q a σ = ACode.wp P (.seq c92_9 .ret) Q a σ := id rfl
@[go_sem] theorem c92_11_wp (P : Program) (Q : APost) (a : AFr) (σ : ASt) : c92_11.wp P Q a σ = ACode.wp P (.ops [
    ⟨(some 51), none, .q (.mv (.t 5)), []⟩,
    ⟨(some 52), none, .q (.bin .gtr (.t 51) (.v (.int .u32 65535))), []⟩,
    ⟨(some 53), none, .q (.mv (.t 52)), []⟩,
    ⟨(some 54), (some (53, true)), .q (.mv (.t 5)), []⟩,
    ⟨(some 55), (some (53, true)), .q (.bin .leq (.t 54) (.v (.int .u32 1114111))), []⟩,
    ⟨(some 56), none, .q (.pick (.t 53) (.t 55) (.v (.bool false))), []⟩,
    ⟨(some 50), none, .q (.mv (.t 56)), []⟩]) Q a σ := id rfl
@[go_sem] theorem c92_12_wp (P : Program) (Q : APost) (a : AFr) (σ : ASt) : c92_12.wp P Q a σ = ACode.wp P (.ops [
    ⟨(some 57), none, .q (.mv (.t 0)), []⟩,
    ⟨(some 58), none, .q (.mv (.t 1)), []⟩,
    ⟨(some 59), none, .q (.bin .shr (.t 58) (.v (.int .u64 18))), []⟩,
    ⟨(some 60), none, .q (.conv .u8 (.t 59)), []⟩,
    ⟨(some 61), none, .q (.bin .or (.v (.int .u8 240)) (.t 60)), []⟩,
    ⟨(some 62), none, .q (.mv (.t 1)), []⟩,
    ⟨(some 63), none, .q (.bin .shr (.t 62) (.v (.int .u64 12))), []⟩,
    ⟨(some 64), none, .q (.conv .u8 (.t 63)), []⟩,
    ⟨(some 65), none, .q (.bin .and (.t 64) (.v (.int .u8 63))), []⟩,
    ⟨(some 66), none, .q (.bin .or (.v (.int .u8 128)) (.t 65)), []⟩,
    ⟨(some 67), none, .q (.mv (.t 1)), []⟩,
    ⟨(some 68), none, .q (.bin .shr (.t 67) (.v (.int .u64 6))), []⟩,
    ⟨(some 69), none, .q (.conv .u8 (.t 68)), []⟩,
    ⟨(some 70), none, .q (.bin .and (.t 69) (.v (.int .u8 63))), []⟩,
    ⟨(some 71), none, .q (.bin .or (.v (.int .u8 128)) (.t 70)), []⟩,
    ⟨(some 72), none, .q (.mv (.t 1)), []⟩,
    ⟨(some 73), none, .q (.conv .u8 (.t 72)), []⟩,
    ⟨(some 74), none, .q (.bin .and (.t 73) (.v (.int .u8 63))), []⟩,
    ⟨(some 75), none, .q (.bin .or (.v (.int .u8 128)) (.t 74)), []⟩,
    ⟨(some 76), none, .q (.bsl 1 [(.t 61), (.t 66), (.t 71), (.t 75)]), []⟩,
    ⟨(some 77), none, .e (.app 5 1 1 [(.int .u8 0)] (.t 57) (.t 76)), []⟩,
    ⟨(some 4), none, .q (.mv (.t 77)), []⟩]) Q a σ := id rfl
@[go_sem] theorem c92_13_wp (P : Program) (Q : APost) (a : AFr) (σ : ASt) : c92_13.wp P Q a σ = ACode.wp P (.seq c92_12 .ret) Q a σ := id rfl
@[go_sem] theorem c92_14_wp (P : Program) (Q : APost) (a : AFr) (σ : ASt) : c92_14.wp P Q a σ = ACode.wp P (.ops [
    ⟨(some 8), none, .q (.mv (.t 0)), []⟩,
    ⟨(some 9), none, .q (.bsl 1 [(.v (.int .u8 239)), (.v (.int .u8 191)), (.v (.int .u8 189))]), []⟩,
    ⟨(some 10), none, .e (.app 5 1 1 [(.int .u8 0)] (.t 8) (.t 9)), []⟩,
    ⟨(some 4), none, .q (.mv (.t 10)), []⟩]) Q a σ := id rfl
@[go_sem] theorem c92_15_wp (P : Program) (Q : APost) (a : AFr) (σ : ASt) : c92_15.wp P Q a σ = ACode.wp P (.seq c92_14 .ret) Q a σ := id rfl
@[go_sem] theorem c92_16_wp (P : Program) (Q : APost) (a : AFr) (σ : ASt) : c92_16.wp P Q a σ = ACode.wp P (.cond (.t 50) c92_13 c92_15) Q a σ := id rfl
@[go_sem] theorem c92_17_wp (P : Program) (Q : APost) (a : AFr) (σ : ASt) : c92_17.wp P Q a σ = ACode.wp P (.seq c92_11 c92_16) Q a σ := id rfl
@[go_sem] theorem c92_18_wp (P : Program) (Q : APost) (a : AFr) (σ : ASt) : c92_18.wp P Q a σ = ACode.wp P (.cond (.t 25) c92_10 c92_17) Q a σ := id rfl
@[go_sem] theorem c92_19_wp (P : Program) (Q : APost) (a : AFr) (σ : ASt) : c92_19.wp P Q a σ = ACode.wp P (.seq c92_8 c92_18) Q a σ := id rfl
@[go_sem] theorem c92_20_wp (P : Program) (Q : APost) (a : AFr) (σ : ASt) : c92_20.wp P Q a σ = ACode.wp P (.cond (.t 11) c92_4 c92_19) Q a σ := id rfl
@[go_sem] theorem c92_21_wp (P : Program) (Q : APost) (a : AFr) (σ : ASt) : c92_21.wp P Q a σ = ACode.wp P (.seq c92_2 c92_20) Q a σ := id rfl
@[go_sem] theorem c92_22_wp (P : Program) (Q : APost) (a : AFr) (σ : ASt) : c92_22.wp P Q a σ = ACode.wp P (.block 0 c92_21) Q a σ := id rfl
@[go_sem] theorem c92_23_wp (P : Program) (Q : APost) (a : AFr) (σ : ASt) : c92_23.wp P Q a σ = ACode.wp P (.seq c92_1 c92_22) Q a σ := id rfl
@[go_sem] theorem c92_24_wp (P : Program) (Q : APost) (a : AFr) (σ : ASt) : c92_24.wp P Q a σ = ACode.wp P (.seq c92_0 c92_23) Q a σ := id rfl
def c92 : AFn := ⟨78, [.t 4], c92_24⟩
set_option maxRecDepth 100000 in
theorem c92_ok : compF Tryd.prog Tryd.f92 = some c92 := by kernel_rfl
theorem a92 {args : List AV} {σ : ASt} {R : AV → ASt → Prop} (hl : args.length ≤ 78) (h : c92_24.wp Tryd.prog (RetQ [.t 4] R) (init args) σ) : ACalls Tryd.prog 92 args σ R := acalls_of Tryd.func92 c92_ok hl h

end Go.A
