/- The functions, compiled: by program (wip/gencode.py). -/
import Derived.Test.YtfjnahkcfdcbeaaDoorBk
import Derived.Test.YtfjnahkcfdcbeaaDoorProg
import Derived.KernelRfl
namespace Go.A
open Go.Proofs

/-! 11: tabular/addr.Parse -/
def c11_0 : ACode := .ops [
    ⟨(some 2), none, .e (.alloc [(.int .i64 0), (.int .i64 0), (.bool false), (.bool false)]), []⟩,
    ⟨(some 3), none, .q (.mv (.v (.bool false))), []⟩]
def c11_1 : ACode := .ops [
    ⟨(some 7), none, .q (.mv (.t 0)), []⟩,
    ⟨(some 8), none, .e (.call 16 [(.t 7)]), []⟩,
    ⟨(some 6), none, .q (.mv (.t 8)), []⟩,
    ⟨(some 9), none, .q (.ext 0 (.t 6)), []⟩,
    ⟨(some 10), none, .q (.ext 1 (.t 6)), []⟩,
    ⟨(some 4), none, .e (.alloc [(.int .i64 0), (.int .i64 0), (.bool false), (.bool false)]), []⟩,
    ⟨none, none, .e (.store 4 (.t 4) (.t 9)), []⟩,
    ⟨(some 5), none, .q (.mv (.t 10)), []⟩]
def c11_2 : ACode := .ops [
    ⟨(some 11), none, .q (.mv (.t 5)), []⟩,
    ⟨(some 12), none, .q (.bin .eql (.t 11) (.v (.int .i64 0))), []⟩,
    ⟨(some 13), none, .q (.mv (.t 12)), []⟩,
    ⟨(some 14), (some (13, false)), .q (.mv (.t 5)), []⟩,
    ⟨(some 15), (some (13, false)), .q (.mv (.t 0)), []⟩,
    ⟨(some 16), (some (13, false)), .q (.lenS (.t 15)), []⟩,
    ⟨(some 17), (some (13, false)), .q (.bin .lss (.t 14) (.t 16)), []⟩,
    ⟨(some 18), none, .q (.pick (.t 13) (.v (.bool true)) (.t 17)), []⟩]
def c11_3 : ACode := .ops [
    ⟨(some 19), none, .q (.build [(.int .i64 0), (.int .i64 0), (.bool false), (.bool false)] []), []⟩,
    ⟨none, none, .e (.store 4 (.t 2) (.t 19)), []⟩,
    ⟨(some 3), none, .q (.mv (.v (.bool false))), []⟩]
def c11_4 : ACode := .seq c11_3 .ret
def c11_5 : ACode := .cond (.t 18) c11_4 .skip
def c11_6 : ACode := .seq c11_2 c11_5
def c11_7 : ACode := .ops [
    ⟨(some 20), none, .q (.ld (some 4) (.t 4)), []⟩,
    ⟨none, none, .e (.store 4 (.t 2) (.t 20)), []⟩,
    ⟨(some 3), none, .q (.mv (.v (.bool true))), []⟩]
def c11_8 : ACode := .seq c11_7 .ret
def c11_9 : ACode := .seq c11_6 c11_8
def c11_10 : ACode := .seq c11_1 c11_9
def c11_11 : ACode := .seq c11_0 c11_10
@[go_sem] theorem c11_0_wp (P : Program) (Q : APost) (a : AFr) (σ : ASt) : c11_0.wp P Q a σ = ACode.wp P (.ops [
    ⟨(some 2), none, .e (.alloc [(.int .i64 0), (.int .i64 0), (.bool false), (.bool false)]), []⟩,
    ⟨(some 3), none, .q (.mv (.v (.bool false))), []⟩]) Q a σ := id rfl
@[go_sem] theorem c11_1_wp (P : Program) (Q : APost) (a : AFr) (σ : ASt) : c11_1.wp P Q a σ = ACode.wp P (.ops [
    ⟨(some 7), none, .q (.mv (.t 0)), []⟩,
    ⟨(some 8), none, .e (.call 16 [(.t 7)]), []⟩,
    ⟨(some 6), none, .q (.mv (.t 8)), []⟩,
    ⟨(some 9), none, .q (.ext 0 (.t 6)), []⟩,
    ⟨(some 10), none, .q (.ext 1 (.t 6)), []⟩,
    ⟨(some 4), none, .e (.alloc [(.int .i64 0), (.int .i64 0), (.bool false), (.bool false)]), []⟩,
    ⟨none, none, .e (.store 4 (.t 4) (.t 9)), []⟩,
    ⟨(some 5), none, .q (.mv (.t 10)), []⟩]) Q a σ := id rfl
@[go_sem] theorem c11_2_wp (P : Program) (Q : APost) (a : AFr) (σ : ASt) : c11_2.wp P Q a σ = ACode.wp P (.ops [
    ⟨(some 11), none, .q (.mv (.t 5)), []⟩,
    ⟨(some 12), none, .q (.bin .eql (.t 11) (.v (.int .i64 0))), []⟩,
    ⟨(some 13), none, .q (.mv (.t 12)), []⟩,
    ⟨(some 14), (some (13, false)), .q (.mv (.t 5)), []⟩,
    ⟨(some 15), (some (13, false)), .q (.mv (.t 0)), []⟩,
    ⟨(some 16), (some (13, false)), .q (.lenS (.t 15)), []⟩,
    ⟨(some 17), (some (13, false)), .q (.bin .lss (.t 14) (.t 16)), []⟩,
    ⟨(some 18), none, .q (.pick (.t 13) (.v (.bool true)) (.t 17)), []⟩]) Q a σ := id rfl
@[go_sem] theorem c11_3_wp (P : Program) (Q : APost) (a : AFr) (σ : ASt) : c11_3.wp P Q a σ = ACode.wp P (.ops [
    ⟨(some 19), none, .q (.build [(.int .i64 0), (.int .i64 0), (.bool false), (.bool false)] []), []⟩,
    ⟨none, none, .e (.store 4 (.t 2) (.t 19)), []⟩,
    ⟨(some 3), none, .q (.mv (.v (.bool false))), []⟩]) Q a σ := id rfl
@[go_sem] theorem c11_4_wp (P : Program) (Q : APost) (a : AFr) (σ : ASt) : c11_4.wp P Q a σ = ACode.wp P (.seq c11_3 .ret) Q a σ := id rfl
@[go_sem] theorem c11_5_wp (P : Program) (Q : APost) (a : AFr) (σ : ASt) : c11_5.wp P Q a σ = ACode.wp P (.cond (.t 18) c11_4 .skip) Q a σ := id rfl
@[go_sem] theorem c11_6_wp (P : Program) (Q : APost) (a : AFr) (σ : ASt) : c11_6.wp P Q a σ = ACode.wp P (.seq c11_2 c11_5) Q a σ := id rfl
@[go_sem] theorem c11_7_wp (P : Program) (Q : APost) (a : AFr) (σ : ASt) : c11_7.wp P Q a σ = ACode.wp P (.ops [
    ⟨(some 20), none, .q (.ld (some 4) (.t 4)), []⟩,
    ⟨none, none, .e (.store 4 (.t 2) (.t 20)), []⟩,
    ⟨(some 3), none, .q (.mv (.v (.bool true))), []⟩]) Q a σ := id rfl
@[go_sem] theorem c11_8_wp (P : Program) (Q : APost) (a : AFr) (σ : ASt) : c11_8.wp P Q a σ = ACode.wp P (.seq c11_7 .ret) Q a σ := id rfl
@[go_sem] theorem c11_9_wp (P : Program) (Q : APost) (a : AFr) (σ : ASt) : c11_9.wp P Q a σ = ACode.wp P (.seq c11_6 c11_8) Q a σ := id rfl
@[go_sem] theorem c11_10_wp (P : Program) (Q : APost) (a : AFr) (σ : ASt) : c11_10.wp P Q a σ = ACode.wp P (.seq c11_1 c11_9) Q a σ := id rfl
@[go_sem] theorem c11_11_wp (P : Program) (Q : APost) (a : AFr) (σ : ASt) : c11_11.wp P Q a σ = ACode.wp P (.seq c11_0 c11_10) Q a σ := id rfl
def c11 : AFn := ⟨21, [.c 2 (some 4), .t 3], c11_11⟩
set_option maxRecDepth 100000 in
theorem c11_ok : compF Tryd.prog Tryd.f11 = some c11 := by kernel_rfl
theorem a11 {args : List AV} {σ : ASt} {R : AV → ASt → Prop} (hl : args.length ≤ 21) (h : c11_11.wp Tryd.prog (RetQ [.c 2 (some 4), .t 3] R) (init args) σ) : ACalls Tryd.prog 11 args σ R := acalls_of Tryd.func11 c11_ok hl h

/-! 15: tabular/tabularlaw01.Cut -/
def c15_0 : ACode := .ops [
    ⟨(some 4), none, .q (.mv (.v (.str []))), []⟩]
def c15_1 : ACode := .ops [
    ⟨(some 5), none, .q (.mv (.t 0)), []⟩,
    ⟨(some 6), none, .q (.lenS (.t 5)), []⟩,
    ⟨(some 7), none, .q (.mv (.t 1)), []⟩,
    ⟨(some 8), none, .q (.bin .gtr (.t 6) (.t 7)), []⟩]
def c15_2 : ACode := .ops [
    ⟨(some 9), none, .q (.mv (.t 0)), []⟩,
    ⟨(some 10), none, .q (.mv (.t 1)), []⟩,
    ⟨(some 11), none, .q (.slto (true, 0) (.t 9) (.t 10)), []⟩,
    ⟨(some 4), none, .q (.mv (.t 11)), []⟩]
def c15_3 : ACode := .seq c15_2 .ret
def c15_4 : ACode := .cond (.t 8) c15_3 .skip
def c15_5 : ACode := .seq c15_1 c15_4
def c15_6 : ACode := .ops [
    ⟨(some 12), none, .q (.mv (.t 0)), []⟩,
    ⟨(some 4), none, .q (.mv (.t 12)), []⟩]
def c15_7 : ACode := .seq c15_6 .ret
def c15_8 : ACode := .seq c15_5 c15_7
def c15_9 : ACode := .seq c15_0 c15_8
@[go_sem] theorem c15_0_wp (P : Program) (Q : APost) (a : AFr) (σ : ASt) : c15_0.wp P Q a σ = ACode.wp P (.ops [
    ⟨(some 4), none, .q (.mv (.v (.str []))), []⟩]) Q a σ := id rfl
@[go_sem] theorem c15_1_wp (P : Program) (Q : APost) (a : AFr) (σ : ASt) : c15_1.wp P Q a σ = ACode.wp P (.ops [
    ⟨(some 5), none, .q (.mv (.t 0)), []⟩,
    ⟨(some 6), none, .q (.lenS (.t 5)), []⟩,
    ⟨(some 7), none, .q (.mv (.t 1)), []⟩,
    ⟨(some 8), none, .q (.bin .gtr (.t 6) (.t 7)), []⟩]) Q a σ := id rfl
@[go_sem] theorem c15_2_wp (P : Program) (Q : APost) (a : AFr) (σ : ASt) : c15_2.wp P Q a σ = ACode.wp P (.ops [
    ⟨(some 9), none, .q (.mv (.t 0)), []⟩,
    ⟨(some 10), none, .q (.mv (.t 1)), []⟩,
    ⟨(some 11), none, .q (.slto (true, 0) (.t 9) (.t 10)), []⟩,
    ⟨(some 4), none, .q (.mv (.t 11)), []⟩]) Q a σ := id rfl
@[go_sem] theorem c15_3_wp (P : Program) (Q : APost) (a : AFr) (σ : ASt) : c15_3.wp P Q a σ = ACode.wp P (.seq c15_2 .ret) Q a σ := id rfl
@[go_sem] theorem c15_4_wp (P : Program) (Q : APost) (a : AFr) (σ : ASt) : c15_4.wp P Q a σ = ACode.wp P (.cond (.t 8) c15_3 .skip) Q a σ := id rfl
@[go_sem] theorem c15_5_wp (P : Program) (Q : APost) (a : AFr) (σ : ASt) : c15_5.wp P Q a σ = ACode.wp P (.seq c15_1 c15_4) Q a σ := id rfl
@[go_sem] theorem c15_6_wp (P : Program) (Q : APost) (a : AFr) (σ : ASt) : c15_6.wp P Q a σ = ACode.wp P (.ops [
    ⟨(some 12), none, .q (.mv (.t 0)), []⟩,
    ⟨(some 4), none, .q (.mv (.t 12)), []⟩]) Q a σ := id rfl
@[go_sem] theorem c15_7_wp (P : Program) (Q : APost) (a : AFr) (σ : ASt) : c15_7.wp P Q a σ = ACode.wp P (.seq c15_6 .ret) Q a σ := id rfl
@[go_sem] theorem c15_8_wp (P : Program) (Q : APost) (a : AFr) (σ : ASt) : c15_8.wp P Q a σ = ACode.wp P (.seq c15_5 c15_7) Q a σ := id rfl
@[go_sem] theorem c15_9_wp (P : Program) (Q : APost) (a : AFr) (σ : ASt) : c15_9.wp P Q a σ = ACode.wp P (.seq c15_0 c15_8) Q a σ := id rfl
def c15 : AFn := ⟨13, [.t 4], c15_9⟩
set_option maxRecDepth 100000 in
theorem c15_ok : compF Tryd.prog Tryd.f15 = some c15 := by kernel_rfl
theorem a15 {args : List AV} {σ : ASt} {R : AV → ASt → Prop} (hl : args.length ≤ 13) (h : c15_9.wp Tryd.prog (RetQ [.t 4] R) (init args) σ) : ACalls Tryd.prog 15 args σ R := acalls_of Tryd.func15 c15_ok hl h

/-! 16: tabular/addr.Read -/
def c16_0 : ACode := .ops [
    ⟨(some 2), none, .e (.alloc [(.int .i64 0), (.int .i64 0), (.bool false), (.bool false)]), []⟩,
    ⟨(some 3), none, .q (.mv (.v (.int .i64 0))), []⟩]
def c16_1 : ACode := .ops [
    ⟨(some 4), none, .e (.alloc [(.int .i64 0), (.int .i64 0), (.bool false), (.bool false)]), []⟩]
def c16_2 : ACode := .ops [
    ⟨(some 5), none, .q (.mv (.v (.int .i64 0))), []⟩]
def c16_3 : ACode := .ops [
    ⟨(some 11), none, .q (.mv (.t 5)), []⟩,
    ⟨(some 12), none, .q (.mv (.t 0)), []⟩,
    ⟨(some 13), none, .q (.lenS (.t 12)), []⟩,
    ⟨(some 14), none, .q (.bin .lss (.t 11) (.t 13)), []⟩,
    ⟨(some 15), none, .q (.mv (.t 14)), []⟩,
    ⟨(some 16), (some (15, true)), .q (.mv (.t 0)), []⟩,
    ⟨(some 17), (some (15, true)), .q (.mv (.t 5)), []⟩,
    ⟨(some 18), (some (15, true)), .q (.idx (.t 16) (.t 17)), []⟩,
    ⟨(some 19), (some (15, true)), .q (.bin .eql (.t 18) (.v (.int .u8 36))), []⟩,
    ⟨(some 20), none, .q (.pick (.t 15) (.t 19) (.v (.bool false))), []⟩]
def c16_4 : ACode := .ops [
    ⟨(some 21), none, .q (.fa 3 (.t 4)), []⟩,
    ⟨none, none, .e (.store 1 (.t 21) (.v (.bool true))), []⟩]
def c16_5 : ACode := .ops [
    ⟨(some 22), none, .q (.mv (.t 5)), []⟩,
    ⟨(some 23), none, .q (.bin .add (.t 22) (.v (.int .i64 1))), []⟩,
    ⟨(some 5), none, .q (.mv (.t 23)), []⟩]
def c16_6 : ACode := .seq c16_4 c16_5
def c16_7 : ACode := .cond (.t 20) c16_6 .skip
def c16_8 : ACode := .seq c16_3 c16_7
def c16_9 : ACode := .ops [
    ⟨(some 24), none, .q (.mv (.t 5)), []⟩,
    ⟨(some 6), none, .q (.mv (.t 24)), []⟩]
def c16_10 : ACode := .ops [
    ⟨(some 25), none, .q (.mv (.t 5)), []⟩,
    ⟨(some 26), none, .q (.mv (.t 0)), []⟩,
    ⟨(some 27), none, .q (.lenS (.t 26)), []⟩,
    ⟨(some 28), none, .q (.bin .lss (.t 25) (.t 27)), []⟩,
    ⟨(some 29), none, .q (.mv (.t 28)), []⟩,
    ⟨(some 30), (some (29, true)), .q (.mv (.t 0)), []⟩,
    ⟨(some 31), (some (29, true)), .q (.mv (.t 5)), []⟩,
    ⟨(some 32), (some (29, true)), .q (.idx (.t 30) (.t 31)), []⟩,
    ⟨(some 33), (some (29, true)), .e (.call 31 [(.t 32)]), []⟩,
    ⟨(some 34), (some (29, true)), .q (.bin .gtr (.t 33) (.v (.int .i64 0))), []⟩,
    ⟨(some 35), none, .q (.pick (.t 29) (.t 34) (.v (.bool false))), []⟩]
def c16_11 : ACode := .cond (.t 35) .skip (.exit 0)
def c16_12 : ACode := .seq c16_10 c16_11
def c16_13 : ACode := .ops [
    ⟨(some 36), none, .q (.mv (.t 5)), []⟩,
    ⟨(some 37), none, .q (.bin .add (.t 36) (.v (.int .i64 1))), []⟩,
    ⟨(some 5), none, .q (.mv (.t 37)), []⟩]
def c16_14 : ACode := .block 1 c16_13
def c16_15 : ACode := .seq c16_12 c16_14
def c16_16 : ACode := .loop c16_15
def c16_17 : ACode := .block 0 c16_16
def c16_18 : ACode := .ops [
    ⟨(some 39), none, .q (.mv (.t 0)), []⟩,
    ⟨(some 40), none, .q (.mv (.t 6)), []⟩,
    ⟨(some 41), none, .q (.mv (.t 5)), []⟩,
    ⟨(some 42), none, .q (.sls (true, 0) (.t 39) (.t 40) (.t 41)), []⟩,
    ⟨(some 43), none, .e (.call 32 [(.t 42)]), []⟩,
    ⟨(some 38), none, .q (.mv (.t 43)), []⟩,
    ⟨(some 44), none, .q (.ext 0 (.t 38)), []⟩,
    ⟨(some 45), none, .q (.ext 1 (.t 38)), []⟩,
    ⟨(some 7), none, .q (.mv (.t 44)), []⟩,
    ⟨(some 8), none, .q (.mv (.t 45)), []⟩]
def c16_19 : ACode := .ops [
    ⟨(some 46), none, .q (.mv (.t 8)), []⟩,
    ⟨(some 47), none, .q (.un .not (.t 46)), []⟩]
def c16_20 : ACode := .ops [
    ⟨(some 48), none, .q (.build [(.int .i64 0), (.int .i64 0), (.bool false), (.bool false)] []), []⟩,
    ⟨none, none, .e (.store 4 (.t 2) (.t 48)), []⟩,
    ⟨(some 3), none, .q (.mv (.v (.int .i64 0))), []⟩]
def c16_21 : ACode := .seq c16_20 .ret
def c16_22 : ACode := .cond (.t 47) c16_21 .skip
def c16_23 : ACode := .seq c16_19 c16_22
def c16_24 : ACode := .ops [
    ⟨(some 49), none, .q (.mv (.t 5)), []⟩,
    ⟨(some 50), none, .q (.mv (.t 0)), []⟩,
    ⟨(some 51), none, .q (.lenS (.t 50)), []⟩,
    ⟨(some 52), none, .q (.bin .lss (.t 49) (.t 51)), []⟩,
    ⟨(some 53), none, .q (.mv (.t 52)), []⟩,
    ⟨(some 54), (some (53, true)), .q (.mv (.t 0)), []⟩,
    ⟨(some 55), (some (53, true)), .q (.mv (.t 5)), []⟩,
    ⟨(some 56), (some (53, true)), .q (.idx (.t 54) (.t 55)), []⟩,
    ⟨(some 57), (some (53, true)), .q (.bin .eql (.t 56) (.v (.int .u8 36))), []⟩,
    ⟨(some 58), none, .q (.pick (.t 53) (.t 57) (.v (.bool false))), []⟩]
def c16_25 : ACode := .ops [
    ⟨(some 59), none, .q (.fa 2 (.t 4)), []⟩,
    ⟨none, none, .e (.store 1 (.t 59) (.v (.bool true))), []⟩]
def c16_26 : ACode := .ops [
    ⟨(some 60), none, .q (.mv (.t 5)), []⟩,
    ⟨(some 61), none, .q (.bin .add (.t 60) (.v (.int .i64 1))), []⟩,
    ⟨(some 5), none, .q (.mv (.t 61)), []⟩]
def c16_27 : ACode := .seq c16_25 c16_26
def c16_28 : ACode := .cond (.t 58) c16_27 .skip
def c16_29 : ACode := .seq c16_24 c16_28
def c16_30 : ACode := .ops [
    ⟨(some 62), none, .q (.mv (.t 5)), []⟩,
    ⟨(some 9), none, .q (.mv (.v (.int .i64 0))), []⟩,
    ⟨(some 10), none, .q (.mv (.t 62)), []⟩]
def c16_31 : ACode := .ops [
    ⟨(some 63), none, .q (.mv (.t 5)), []⟩,
    ⟨(some 64), none, .q (.mv (.t 0)), []⟩,
    ⟨(some 65), none, .q (.lenS (.t 64)), []⟩,
    ⟨(some 66), none, .q (.bin .lss (.t 63) (.t 65)), []⟩,
    ⟨(some 67), none, .q (.mv (.t 66)), []⟩,
    ⟨(some 68), (some (67, true)), .q (.mv (.t 0)), []⟩,
    ⟨(some 69), (some (67, true)), .q (.mv (.t 5)), []⟩,
    ⟨(some 70), (some (67, true)), .q (.idx (.t 68) (.t 69)), []⟩,
    ⟨(some 71), (some (67, true)), .q (.bin .geq (.t 70) (.v (.int .u8 48))), []⟩,
    ⟨(some 72), none, .q (.pick (.t 67) (.t 71) (.v (.bool false))), []⟩,
    ⟨(some 73), none, .q (.mv (.t 72)), []⟩,
    ⟨(some 74), (some (73, true)), .q (.mv (.t 0)), []⟩,
    ⟨(some 75), (some (73, true)), .q (.mv (.t 5)), []⟩,
    ⟨(some 76), (some (73, true)), .q (.idx (.t 74) (.t 75)), []⟩,
    ⟨(some 77), (some (73, true)), .q (.bin .leq (.t 76) (.v (.int .u8 57))), []⟩,
    ⟨(some 78), none, .q (.pick (.t 73) (.t 77) (.v (.bool false))), []⟩]
def c16_32 : ACode := .cond (.t 78) .skip (.exit 2)
def c16_33 : ACode := .seq c16_31 c16_32
def c16_34 : ACode := .ops [
    ⟨(some 79), none, .q (.mv (.t 9)), []⟩,
    ⟨(some 80), none, .q (.bin .mul (.v (.int .i64 10)) (.t 79)), []⟩,
    ⟨(some 81), none, .q (.mv (.t 0)), []⟩,
    ⟨(some 82), none, .q (.mv (.t 5)), []⟩,
    ⟨(some 83), none, .q (.idx (.t 81) (.t 82)), []⟩,
    ⟨(some 84), none, .q (.bin .sub (.t 83) (.v (.int .u8 48))), []⟩,
    ⟨(some 85), none, .q (.conv .i64 (.t 84)), []⟩,
    ⟨(some 86), none, .q (.bin .add (.t 80) (.t 85)), []⟩,
    ⟨(some 87), none, .q (.mnx false (.t 86) (.v (.int .i64 3001))), []⟩,
    ⟨(some 9), none, .q (.mv (.t 87)), []⟩]
def c16_35 : ACode := .ops [
    ⟨(some 88), none, .q (.mv (.t 5)), []⟩,
    ⟨(some 89), none, .q (.bin .add (.t 88) (.v (.int .i64 1))), []⟩,
    ⟨(some 5), none, .q (.mv (.t 89)), []⟩]
def c16_36 : ACode := .seq c16_34 c16_35
def c16_37 : ACode := .block 3 c16_36
def c16_38 : ACode := .seq c16_33 c16_37
def c16_39 : ACode := .loop c16_38
def c16_40 : ACode := .block 2 c16_39
def c16_41 : ACode := .ops [
    ⟨(some 90), none, .q (.mv (.t 9)), []⟩,
    ⟨(some 91), none, .q (.bin .lss (.t 90) (.v (.int .i64 1))), []⟩,
    ⟨(some 92), none, .q (.mv (.t 91)), []⟩,
    ⟨(some 93), (some (92, false)), .q (.mv (.t 9)), []⟩,
    ⟨(some 94), (some (92, false)), .q (.bin .gtr (.t 93) (.v (.int .i64 3000))), []⟩,
    ⟨(some 95), none, .q (.pick (.t 92) (.v (.bool true)) (.t 94)), []⟩,
    ⟨(some 96), none, .q (.mv (.t 95)), []⟩,
    ⟨(some 97), (some (96, false)), .q (.mv (.t 0)), []⟩,
    ⟨(some 98), (some (96, false)), .q (.mv (.t 10)), []⟩,
    ⟨(some 99), (some (96, false)), .q (.idx (.t 97) (.t 98)), []⟩,
    ⟨(some 100), (some (96, false)), .q (.bin .eql (.t 99) (.v (.int .u8 48))), []⟩,
    ⟨(some 101), none, .q (.pick (.t 96) (.v (.bool true)) (.t 100)), []⟩,
    ⟨(some 102), none, .q (.mv (.t 101)), []⟩,
    ⟨(some 103), (some (102, false)), .q (.mv (.t 0)), []⟩,
    ⟨(some 104), (some (102, false)), .q (.mv (.t 5)), []⟩,
    ⟨(some 105), (some (102, false)), .e (.call 33 [(.t 103), (.t 104)]), []⟩,
    ⟨(some 106), (some (102, false)), .e (.call 31 [(.t 105)]), []⟩,
    ⟨(some 107), (some (102, false)), .q (.bin .gtr (.t 106) (.v (.int .i64 0))), []⟩,
    ⟨(some 108), none, .q (.pick (.t 102) (.v (.bool true)) (.t 107)), []⟩,
    ⟨(some 109), none, .q (.mv (.t 108)), []⟩,
    ⟨(some 110), (some (109, false)), .q (.mv (.t 0)), []⟩,
    ⟨(some 111), (some (109, false)), .q (.mv (.t 5)), []⟩,
    ⟨(some 112), (some (109, false)), .e (.call 33 [(.t 110), (.t 111)]), []⟩,
    ⟨(some 113), (some (109, false)), .q (.bin .eql (.t 112) (.v (.int .u8 95))), []⟩,
    ⟨(some 114), none, .q (.pick (.t 109) (.v (.bool true)) (.t 113)), []⟩]
def c16_42 : ACode := .ops [
    ⟨(some 115), none, .q (.build [(.int .i64 0), (.int .i64 0), (.bool false), (.bool false)] []), []⟩,
    ⟨none, none, .e (.store 4 (.t 2) (.t 115)), []⟩,
    ⟨(some 3), none, .q (.mv (.v (.int .i64 0))), []⟩]
def c16_43 : ACode := .seq c16_42 .ret
def c16_44 : ACode := .cond (.t 114) c16_43 .skip
def c16_45 : ACode := .seq c16_41 c16_44
def c16_46 : ACode := .ops [
    ⟨(some 116), none, .q (.mv (.t 9)), []⟩,
    ⟨(some 117), none, .q (.bin .sub (.t 116) (.v (.int .i64 1))), []⟩,
    ⟨(some 118), none, .q (.mv (.t 7)), []⟩,
    ⟨(some 119), none, .q (.fa 0 (.t 4)), []⟩,
    ⟨none, none, .e (.store 1 (.t 119) (.t 117)), []⟩,
    ⟨(some 120), none, .q (.fa 1 (.t 4)), []⟩,
    ⟨none, none, .e (.store 1 (.t 120) (.t 118)), []⟩]
def c16_47 : ACode := .ops [
    ⟨(some 121), none, .q (.ld (some 4) (.t 4)), []⟩,
    ⟨(some 122), none, .q (.mv (.t 5)), []⟩,
    ⟨none, none, .e (.store 4 (.t 2) (.t 121)), []⟩,
    ⟨(some 3), none, .q (.mv (.t 122)), []⟩]
def c16_48 : ACode := .seq c16_47 .ret
def c16_49 : ACode := .seq c16_46 c16_48
def c16_50 : ACode := .seq c16_45 c16_49
def c16_51 : ACode := .seq c16_40 c16_50
def c16_52 : ACode := .seq c16_30 c16_51
def c16_53 : ACode := .seq c16_29 c16_52
def c16_54 : ACode := .seq c16_23 c16_53
def c16_55 : ACode := .seq c16_18 c16_54
def c16_56 : ACode := .seq c16_17 c16_55
def c16_57 : ACode := .seq c16_9 c16_56
def c16_58 : ACode := .seq c16_8 c16_57
def c16_59 : ACode := .seq c16_2 c16_58
def c16_60 : ACode := .seq c16_1 c16_59
def c16_61 : ACode := .seq c16_0 c16_60
@[go_sem] theorem c16_0_wp (P : Program) (Q : APost) (a : AFr) (σ : ASt) : c16_0.wp P Q a σ = ACode.wp P (.ops [
    ⟨(some 2), none, .e (.alloc [(.int .i64 0), (.int .i64 0), (.bool false), (.bool false)]), []⟩,
    ⟨(some 3), none, .q (.mv (.v (.int .i64 0))), []⟩]) Q a σ := id rfl
@[go_sem] theorem c16_1_wp (P : Program) (Q : APost) (a : AFr) (σ : ASt) : c16_1.wp P Q a σ = ACode.wp P (.ops [
    ⟨(some 4), none, .e (.alloc [(.int .i64 0), (.int .i64 0), (.bool false), (.bool false)]), []⟩]) Q a σ := id rfl
@[go_sem] theorem c16_2_wp (P : Program) (Q : APost) (a : AFr) (σ : ASt) : c16_2.wp P Q a σ = ACode.wp P (.ops [
    ⟨(some 5), none, .q (.mv (.v (.int .i64 0))), []⟩]) Q a σ := id rfl
@[go_sem] theorem c16_3_wp (P : Program) (Q : APost) (a : AFr) (σ : ASt) : c16_3.wp P Q a σ = ACode.wp P (.ops [
    ⟨(some 11), none, .q (.mv (.t 5)), []⟩,
    ⟨(some 12), none, .q (.mv (.t 0)), []⟩,
    ⟨(some 13), none, .q (.lenS (.t 12)), []⟩,
    ⟨(some 14), none, .q (.bin .lss (.t 11) (.t 13)), []⟩,
    ⟨(some 15), none, .q (.mv (.t 14)), []⟩,
    ⟨(some 16), (some (15, true)), .q (.mv (.t 0)), []⟩,
    ⟨(some 17), (some (15, true)), .q (.mv (.t 5)), []⟩,
    ⟨(some 18), (some (15, true)), .q (.idx (.t 16) (.t 17)), []⟩,
    ⟨(some 19), (some (15, true)), .q (.bin .eql (.t 18) (.v (.int .u8 36))), []⟩,
    ⟨(some 20), none, .q (.pick (.t 15) (.t 19) (.v (.bool false))), []⟩]) Q a σ := id rfl
@[go_sem] theorem c16_4_wp (P : Program) (Q : APost) (a : AFr) (σ : ASt) : c16_4.wp P Q a σ = ACode.wp P (.ops [
    ⟨(some 21), none, .q (.fa 3 (.t 4)), []⟩,
    ⟨none, none, .e (.store 1 (.t 21) (.v (.bool true))), []⟩]) Q a σ := id rfl
@[go_sem] theorem c16_5_wp (P : Program) (Q : APost) (a : AFr) (σ : ASt) : c16_5.wp P Q a σ = ACode.wp P (.ops [
    ⟨(some 22), none, .q (.mv (.t 5)), []⟩,
    ⟨(some 23), none, .q (.bin .add (.t 22) (.v (.int .i64 1))), []⟩,
    ⟨(some 5), none, .q (.mv (.t 23)), []⟩]) Q a σ := id rfl
@[go_sem] theorem c16_6_wp (P : Program) (Q : APost) (a : AFr) (σ : ASt) : c16_6.wp P Q a σ = ACode.wp P (.seq c16_4 c16_5) Q a σ := id rfl
@[go_sem] theorem c16_7_wp (P : Program) (Q : APost) (a : AFr) (σ : ASt) : c16_7.wp P Q a σ = ACode.wp P (.cond (.t 20) c16_6 .skip) Q a σ := id rfl
@[go_sem] theorem c16_8_wp (P : Program) (Q : APost) (a : AFr) (σ : ASt) : c16_8.wp P Q a σ = ACode.wp P (.seq c16_3 c16_7) Q a σ := id rfl
@[go_sem] theorem c16_9_wp (P : Program) (Q : APost) (a : AFr) (σ : ASt) : c16_9.wp P Q a σ = ACode.wp P (.ops [
    ⟨(some 24), none, .q (.mv (.t 5)), []⟩,
    ⟨(some 6), none, .q (.mv (.t 24)), []⟩]) Q a σ := id rfl
@[go_sem] theorem c16_10_wp (P : Program) (Q : APost) (a : AFr) (σ : ASt) : c16_10.wp P Q a σ = ACode.wp P (.ops [
    ⟨(some 25), none, .q (.mv (.t 5)), []⟩,
    ⟨(some 26), none, .q (.mv (.t 0)), []⟩,
    ⟨(some 27), none, .q (.lenS (.t 26)), []⟩,
    ⟨(some 28), none, .q (.bin .lss (.t 25) (.t 27)), []⟩,
    ⟨(some 29), none, .q (.mv (.t 28)), []⟩,
    ⟨(some 30), (some (29, true)), .q (.mv (.t 0)), []⟩,
    ⟨(some 31), (some (29, true)), .q (.mv (.t 5)), []⟩,
    ⟨(some 32), (some (29, true)), .q (.idx (.t 30) (.t 31)), []⟩,
    ⟨(some 33), (some (29, true)), .e (.call 31 [(.t 32)]), []⟩,
    ⟨(some 34), (some (29, true)), .q (.bin .gtr (.t 33) (.v (.int .i64 0))), []⟩,
    ⟨(some 35), none, .q (.pick (.t 29) (.t 34) (.v (.bool false))), []⟩]) Q a σ := id rfl
@[go_sem] theorem c16_11_wp (P : Program) (Q : APost) (a : AFr) (σ : ASt) : c16_11.wp P Q a σ = ACode.wp P (.cond (.t 35) .skip (.exit 0)) Q a σ := id rfl
@[go_sem] theorem c16_12_wp (P : Program) (Q : APost) (a : AFr) (σ : ASt) : c16_12.wp P Q a σ = ACode.wp P (.seq c16_10 c16_11) Q a σ := id rfl
@[go_sem] theorem c16_13_wp (P : Program) (Q : APost) (a : AFr) (σ : ASt) : c16_13.wp P Q a σ = ACode.wp P (.ops [
    ⟨(some 36), none, .q (.mv (.t 5)), []⟩,
    ⟨(some 37), none, .q (.bin .add (.t 36) (.v (.int .i64 1))), []⟩,
    ⟨(some 5), none, .q (.mv (.t 37)), []⟩]) Q a σ := id rfl
@[go_sem] theorem c16_14_wp (P : Program) (Q : APost) (a : AFr) (σ : ASt) : c16_14.wp P Q a σ = ACode.wp P (.block 1 c16_13) Q a σ := id rfl
@[go_sem] theorem c16_15_wp (P : Program) (Q : APost) (a : AFr) (σ : ASt) : c16_15.wp P Q a σ = ACode.wp P (.seq c16_12 c16_14) Q a σ := id rfl
@[go_sem] theorem c16_16_wp (P : Program) (Q : APost) (a : AFr) (σ : ASt) : c16_16.wp P Q a σ = ACode.wp P (.loop c16_15) Q a σ := id rfl
@[go_sem] theorem c16_17_wp (P : Program) (Q : APost) (a : AFr) (σ : ASt) : c16_17.wp P Q a σ = ACode.wp P (.block 0 c16_16) Q a σ := id rfl
@[go_sem] theorem c16_18_wp (P : Program) (Q : APost) (a : AFr) (σ : ASt) : c16_18.wp P Q a σ = ACode.wp P (.ops [
    ⟨(some 39), none, .q (.mv (.t 0)), []⟩,
    ⟨(some 40), none, .q (.mv (.t 6)), []⟩,
    ⟨(some 41), none, .q (.mv (.t 5)), []⟩,
    ⟨(some 42), none, .q (.sls (true, 0) (.t 39) (.t 40) (.t 41)), []⟩,
    ⟨(some 43), none, .e (.call 32 [(.t 42)]), []⟩,
    ⟨(some 38), none, .q (.mv (.t 43)), []⟩,
    ⟨(some 44), none, .q (.ext 0 (.t 38)), []⟩,
    ⟨(some 45), none, .q (.ext 1 (.t 38)), []⟩,
    ⟨(some 7), none, .q (.mv (.t 44)), []⟩,
    ⟨(some 8), none, .q (.mv (.t 45)), []⟩]) Q a σ := id rfl
@[go_sem] theorem c16_19_wp (P : Program) (Q : APost) (a : AFr) (σ : ASt) : c16_19.wp P Q a σ = ACode.wp P (.ops [
    ⟨(some 46), none, .q (.mv (.t 8)), []⟩,
    ⟨(some 47), none, .q (.un .not (.t 46)), []⟩]) Q a σ := id rfl
@[go_sem] theorem c16_20_wp (P : Program) (Q : APost) (a : AFr) (σ : ASt) : c16_20.wp P Q a σ = ACode.wp P (.ops [
    ⟨(some 48), none, .q (.build [(.int .i64 0), (.int .i64 0), (.bool false), (.bool false)] []), []⟩,
    ⟨none, none, .e (.store 4 (.t 2) (.t 48)), []⟩,
    ⟨(some 3), none, .q (.mv (.v (.int .i64 0))), []⟩]) Q a σ := id rfl
@[go_sem] theorem c16_21_wp (P : Program) (Q : APost) (a : AFr) (σ : ASt) : c16_21.wp P Q a σ = ACode.wp P (.seq c16_20 .ret) Q a σ := id rfl
@[go_sem] theorem c16_22_wp (P : Program) (Q : APost) (a : AFr) (σ : ASt) : c16_22.wp P Q a σ = ACode.wp P (.cond (.t 47) c16_21 .skip) Q a σ := id rfl
@[go_sem] theorem c16_23_wp (P : Program) (Q : APost) (a : AFr) (σ : ASt) : c16_23.wp P Q a σ = ACode.wp P (.seq c16_19 c16_22) Q a σ := id rfl
@[go_sem] theorem c16_24_wp (P : Program) (Q : APost) (a : AFr) (σ : ASt) : c16_24.wp P Q a σ = ACode.wp P (.ops [
    ⟨(some 49), none, .q (.mv (.t 5)), []⟩,
    ⟨(some 50), none, .q (.mv (.t 0)), []⟩,
    ⟨(some 51), none, .q (.lenS (.t 50)), []⟩,
    ⟨(some 52), none, .q (.bin .lss (.t 49) (.t 51)), []⟩,
    ⟨(some 53), none, .q (.mv (.t 52)), []⟩,
    ⟨(some 54), (some (53, true)), .q (.mv (.t 0)), []⟩,
    ⟨(some 55), (some (53, true)), .q (.mv (.t 5)), []⟩,
    ⟨(some 56), (some (53, true)), .q (.idx (.t 54) (.t 55)), []⟩,
    ⟨(some 57), (some (53, true)), .q (.bin .eql (.t 56) (.v (.int .u8 36))), []⟩,
    ⟨(some 58), none, .q (.pick (.t 53) (.t 57) (.v (.bool false))), []⟩]) Q a σ := id rfl
@[go_sem] theorem c16_25_wp (P : Program) (Q : APost) (a : AFr) (σ : ASt) : c16_25.wp P Q a σ = ACode.wp P (.ops [
    ⟨(some 59), none, .q (.fa 2 (.t 4)), []⟩,
    ⟨none, none, .e (.store 1 (.t 59) (.v (.bool true))), []⟩]) Q a σ := id rfl
@[go_sem] theorem c16_26_wp (P : Program) (Q : APost) (a : AFr) (σ : ASt) : c16_26.wp P Q a σ = ACode.wp P (.ops [
    ⟨(some 60), none, .q (.mv (.t 5)), []⟩,
    ⟨(some 61), none, .q (.bin .add (.t 60) (.v (.int .i64 1))), []⟩,
    ⟨(some 5), none, .q (.mv (.t 61)), []⟩]) Q a σ := id rfl
@[go_sem] theorem c16_27_wp (P : Program) (Q : APost) (a : AFr) (σ : ASt) : c16_27.wp P Q a σ = ACode.wp P (.seq c16_25 c16_26) Q a σ := id rfl
@[go_sem] theorem c16_28_wp (P : Program) (Q : APost) (a : AFr) (σ : ASt) : c16_28.wp P Q a σ = ACode.wp P (.cond (.t 58) c16_27 .skip) Q a σ := id rfl
@[go_sem] theorem c16_29_wp (P : Program) (Q : APost) (a : AFr) (σ : ASt) : c16_29.wp P Q a σ = ACode.wp P (.seq c16_24 c16_28) Q a σ := id rfl
@[go_sem] theorem c16_30_wp (P : Program) (Q : APost) (a : AFr) (σ : ASt) : c16_30.wp P Q a σ = ACode.wp P (.ops [
    ⟨(some 62), none, .q (.mv (.t 5)), []⟩,
    ⟨(some 9), none, .q (.mv (.v (.int .i64 0))), []⟩,
    ⟨(some 10), none, .q (.mv (.t 62)), []⟩]) Q a σ := id rfl
@[go_sem] theorem c16_31_wp (P : Program) (Q : APost) (a : AFr) (σ : ASt) : c16_31.wp P Q a σ = ACode.wp P (.ops [
    ⟨(some 63), none, .q (.mv (.t 5)), []⟩,
    ⟨(some 64), none, .q (.mv (.t 0)), []⟩,
    ⟨(some 65), none, .q (.lenS (.t 64)), []⟩,
    ⟨(some 66), none, .q (.bin .lss (.t 63) (.t 65)), []⟩,
    ⟨(some 67), none, .q (.mv (.t 66)), []⟩,
    ⟨(some 68), (some (67, true)), .q (.mv (.t 0)), []⟩,
    ⟨(some 69), (some (67, true)), .q (.mv (.t 5)), []⟩,
    ⟨(some 70), (some (67, true)), .q (.idx (.t 68) (.t 69)), []⟩,
    ⟨(some 71), (some (67, true)), .q (.bin .geq (.t 70) (.v (.int .u8 48))), []⟩,
    ⟨(some 72), none, .q (.pick (.t 67) (.t 71) (.v (.bool false))), []⟩,
    ⟨(some 73), none, .q (.mv (.t 72)), []⟩,
    ⟨(some 74), (some (73, true)), .q (.mv (.t 0)), []⟩,
    ⟨(some 75), (some (73, true)), .q (.mv (.t 5)), []⟩,
    ⟨(some 76), (some (73, true)), .q (.idx (.t 74) (.t 75)), []⟩,
    ⟨(some 77), (some (73, true)), .q (.bin .leq (.t 76) (.v (.int .u8 57))), []⟩,
    ⟨(some 78), none, .q (.pick (.t 73) (.t 77) (.v (.bool false))), []⟩]) Q a σ := id rfl
@[go_sem] theorem c16_32_wp (P : Program) (Q : APost) (a : AFr) (σ : ASt) : c16_32.wp P Q a σ = ACode.wp P (.cond (.t 78) .skip (.exit 2)) Q a σ := id rfl
@[go_sem] theorem c16_33_wp (P : Program) (Q : APost) (a : AFr) (σ : ASt) : c16_33.wp P Q a σ = ACode.wp P (.seq c16_31 c16_32) Q a σ := id rfl
@[go_sem] theorem c16_34_wp (P : Program) (Q : APost) (a : AFr) (σ : ASt) : c16_34.wp P Q a σ = ACode.wp P (.ops [
    ⟨(some 79), none, .q (.mv (.t 9)), []⟩,
    ⟨(some 80), none, .q (.bin .mul (.v (.int .i64 10)) (.t 79)), []⟩,
    ⟨(some 81), none, .q (.mv (.t 0)), []⟩,
    ⟨(some 82), none, .q (.mv (.t 5)), []⟩,
    ⟨(some 83), none, .q (.idx (.t 81) (.t 82)), []⟩,
    ⟨(some 84), none, .q (.bin .sub (.t 83) (.v (.int .u8 48))), []⟩,
    ⟨(some 85), none, .q (.conv .i64 (.t 84)), []⟩,
    ⟨(some 86), none, .q (.bin .add (.t 80) (.t 85)), []⟩,
    ⟨(some 87), none, .q (.mnx false (.t 86) (.v (.int .i64 3001))), []⟩,
    ⟨(some 9), none, .q (.mv (.t 87)), []⟩]) Q a σ := id rfl
@[go_sem] theorem c16_35_wp (P : Program) (Q : APost) (a : AFr) (σ : ASt) : c16_35.wp P Q a σ = ACode.wp P (.ops [
    ⟨(some 88), none, .q (.mv (.t 5)), []⟩,
    ⟨(some 89), none, .q (.bin .add (.t 88) (.v (.int .i64 1))), []⟩,
    ⟨(some 5), none, .q (.mv (.t 89)), []⟩]) Q a σ := id rfl
@[go_sem] theorem c16_36_wp (P : Program) (Q : APost) (a : AFr) (σ : ASt) : c16_36.wp P Q a σ = ACode.wp P (.seq c16_34 c16_35) Q a σ := id rfl
@[go_sem] theorem c16_37_wp (P : Program) (Q : APost) (a : AFr) (σ : ASt) : c16_37.wp P Q a σ = ACode.wp P (.block 3 c16_36) Q a σ := id rfl
@[go_sem] theorem c16_38_wp (P : Program) (Q : APost) (a : AFr) (σ : ASt) : c16_38.wp P Q a σ = ACode.wp P (.seq c16_33 c16_37) Q a σ := id rfl
@[go_sem] theorem c16_39_wp (P : Program) (Q : APost) (a : AFr) (σ : ASt) : c16_39.wp P Q a σ = ACode.wp P (.loop c16_38) Q a σ := id rfl
@[go_sem] theorem c16_40_wp (P : Program) (Q : APost) (a : AFr) (σ : ASt) : c16_40.wp P Q a σ = ACode.wp P (.block 2 c16_39) Q a σ := id rfl
@[go_sem] theorem c16_41_wp (P : Program) (Q : APost) (a : AFr) (σ : ASt) : c16_41.wp P Q a σ = ACode.wp P (.ops [
    ⟨(some 90), none, .q (.mv (.t 9)), []⟩,
    ⟨(some 91), none, .q (.bin .lss (.t 90) (.v (.int .i64 1))), []⟩,
    ⟨(some 92), none, .q (.mv (.t 91)), []⟩,
    ⟨(some 93), (some (92, false)), .q (.mv (.t 9)), []⟩,
    ⟨(some 94), (some (92, false)), .q (.bin .gtr (.t 93) (.v (.int .i64 3000))), []⟩,
    ⟨(some 95), none, .q (.pick (.t 92) (.v (.bool true)) (.t 94)), []⟩,
    ⟨(some 96), none, .q (.mv (.t 95)), []⟩,
    ⟨(some 97), (some (96, false)), .q (.mv (.t 0)), []⟩,
    ⟨(some 98), (some (96, false)), .q (.mv (.t 10)), []⟩,
    ⟨(some 99), (some (96, false)), .q (.idx (.t 97) (.t 98)), []⟩,
    ⟨(some 100), (some (96, false)), .q (.bin .eql (.t 99) (.v (.int .u8 48))), []⟩,
    ⟨(some 101), none, .q (.pick (.t 96) (.v (.bool true)) (.t 100)), []⟩,
    ⟨(some 102), none, .q (.mv (.t 101)), []⟩,
    ⟨(some 103), (some (102, false)), .q (.mv (.t 0)), []⟩,
    ⟨(some 104), (some (102, false)), .q (.mv (.t 5)), []⟩,
    ⟨(some 105), (some (102, false)), .e (.call 33 [(.t 103), (.t 104)]), []⟩,
    ⟨(some 106), (some (102, false)), .e (.call 31 [(.t 105)]), []⟩,
    ⟨(some 107), (some (102, false)), .q (.bin .gtr (.t 106) (.v (.int .i64 0))), []⟩,
    ⟨(some 108), none, .q (.pick (.t 102) (.v (.bool true)) (.t 107)), []⟩,
    ⟨(some 109), none, .q (.mv (.t 108)), []⟩,
    ⟨(some 110), (some (109, false)), .q (.mv (.t 0)), []⟩,
    ⟨(some 111), (some (109, false)), .q (.mv (.t 5)), []⟩,
    ⟨(some 112), (some (109, false)), .e (.call 33 [(.t 110), (.t 111)]), []⟩,
    ⟨(some 113), (some (109, false)), .q (.bin .eql (.t 112) (.v (.int .u8 95))), []⟩,
    ⟨(some 114), none, .q (.pick (.t 109) (.v (.bool true)) (.t 113)), []⟩]) Q a σ := id rfl
@[go_sem] theorem c16_42_wp (P : Program) (Q : APost) (a : AFr) (σ : ASt) : c16_42.wp P Q a σ = ACode.wp P (.ops [
    ⟨(some 115), none, .q (.build [(.int .i64 0), (.int .i64 0), (.bool false), (.bool false)] []), []⟩,
    ⟨none, none, .e (.store 4 (.t 2) (.t 115)), []⟩,
    ⟨(some 3), none, .q (.mv (.v (.int .i64 0))), []⟩]) Q a σ := id rfl
@[go_sem] theorem c16_43_wp (P : Program) (Q : APost) (a : AFr) (σ : ASt) : c16_43.wp P Q a σ = ACode.wp P (.seq c16_42 .ret) Q a σ := id rfl
@[go_sem] theorem c16_44_wp (P : Program) (Q : APost) (a : AFr) (σ : ASt) : c16_44.wp P Q a σ = ACode.wp P (.cond (.t 114) c16_43 .skip) Q a σ := id rfl
@[go_sem] theorem c16_45_wp (P : Program) (Q : APost) (a : AFr) (σ : ASt) : c16_45.wp P Q a σ = ACode.wp P (.seq c16_41 c16_44) Q a σ := id rfl
@[go_sem] theorem c16_46_wp (P : Program) (Q : APost) (a : AFr) (σ : ASt) : c16_46.wp P Q a σ = ACode.wp P (.ops [
    ⟨(some 116), none, .q (.mv (.t 9)), []⟩,
    ⟨(some 117), none, .q (.bin .sub (.t 116) (.v (.int .i64 1))), []⟩,
    ⟨(some 118), none, .q (.mv (.t 7)), []⟩,
    ⟨(some 119), none, .q (.fa 0 (.t 4)), []⟩,
    ⟨none, none, .e (.store 1 (.t 119) (.t 117)), []⟩,
    ⟨(some 120), none, .q (.fa 1 (.t 4)), []⟩,
    ⟨none, none, .e (.store 1 (.t 120) (.t 118)), []⟩]) Q a σ := id rfl
@[go_sem] theorem c16_47_wp (P : Program) (Q : APost) (a : AFr) (σ : ASt) : c16_47.wp P Q a σ = ACode.wp P (.ops [
    ⟨(some 121), none, .q (.ld (some 4) (.t 4)), []⟩,
    ⟨(some 122), none, .q (.mv (.t 5)), []⟩,
    ⟨none, none, .e (.store 4 (.t 2) (.t 121)), []⟩,
    ⟨(some 3), none, .q (.mv (.t 122)), []⟩]) Q a σ := id rfl
@[go_sem] theorem c16_48_wp (P : Program) (Q : APost) (a : AFr) (σ : ASt) : c16_48.wp P Q a σ = ACode.wp P (.seq c16_47 .ret) Q a σ := id rfl
@[go_sem] theorem c16_49_wp (P : Program) (Q : APost) (a : AFr) (σ : ASt) : c16_49.wp P Q a σ = ACode.wp P (.seq c16_46 c16_48) Q a σ := id rfl
@[go_sem] theorem c16_50_wp (P : Program) (Q : APost) (a : AFr) (σ : ASt) : c16_50.wp P Q a σ = ACode.wp P (.seq c16_45 c16_49) Q a σ := id rfl
@[go_sem] theorem c16_51_wp (P : Program) (Q : APost) (a : AFr) (σ : ASt) : c16_51.wp P Q a σ = ACode.wp P (.seq c16_40 c16_50) Q a σ := id rfl
@[go_sem] theorem c16_52_wp (P : Program) (Q : APost) (a : AFr) (σ : ASt) : c16_52.wp P Q a σ = ACode.wp P (.seq c16_30 c16_51) Q a σ := id rfl
@[go_sem] theorem c16_53_wp (P : Program) (Q : APost) (a : AFr) (σ : ASt) : c16_53.wp P Q a σ = ACode.wp P (.seq c16_29 c16_52) Q a σ := id rfl
@[go_sem] theorem c16_54_wp (P : Program) (Q : APost) (a : AFr) (σ : ASt) : c16_54.wp P Q a σ = ACode.wp P (.seq c16_23 c16_53) Q a σ := id rfl
@[go_sem] theorem c16_55_wp (P : Program) (Q : APost) (a : AFr) (σ : ASt) : c16_55.wp P Q a σ = ACode.wp P (.seq c16_18 c16_54) Q a σ := id rfl
@[go_sem] theorem c16_56_wp (P : Program) (Q : APost) (a : AFr) (σ : ASt) : c16_56.wp P Q a σ = ACode.wp P (.seq c16_17 c16_55) Q a σ := id rfl
@[go_sem] theorem c16_57_wp (P : Program) (Q : APost) (a : AFr) (σ : ASt) : c16_57.wp P Q a σ = ACode.wp P (.seq c16_9 c16_56) Q a σ := id rfl
@[go_sem] theorem c16_58_wp (P : Program) (Q : APost) (a : AFr) (σ : ASt) : c16_58.wp P Q a σ = ACode.wp P (.seq c16_8 c16_57) Q a σ := id rfl
@[go_sem] theorem c16_59_wp (P : Program) (Q : APost) (a : AFr) (σ : ASt) : c16_59.wp P Q a σ = ACode.wp P (.seq c16_2 c16_58) Q a σ := id rfl
@[go_sem] theorem c16_60_wp (P : Program) (Q : APost) (a : AFr) (σ : ASt) : c16_60.wp P Q a σ = ACode.wp P (.seq c16_1 c16_59) Q a σ := id rfl
@[go_sem] theorem c16_61_wp (P : Program) (Q : APost) (a : AFr) (σ : ASt) : c16_61.wp P Q a σ = ACode.wp P (.seq c16_0 c16_60) Q a σ := id rfl
def c16 : AFn := ⟨123, [.c 2 (some 4), .t 3], c16_61⟩
set_option maxRecDepth 100000 in
theorem c16_ok : compF Tryd.prog Tryd.f16 = some c16 := by kernel_rfl
theorem a16 {args : List AV} {σ : ASt} {R : AV → ASt → Prop} (hl : args.length ≤ 123) (h : c16_61.wp Tryd.prog (RetQ [.c 2 (some 4), .t 3] R) (init args) σ) : ACalls Tryd.prog 16 args σ R := acalls_of Tryd.func16 c16_ok hl h

/-! 31: tabular/addr.letter -/
def c31_0 : ACode := .ops [
    ⟨(some 2), none, .q (.mv (.v (.int .i64 0))), []⟩]
def c31_1 : ACode := .ops [
    ⟨(some 4), none, .q (.mv (.t 0)), []⟩,
    ⟨(some 5), none, .q (.bin .geq (.t 4) (.v (.int .u8 65))), []⟩,
    ⟨(some 6), none, .q (.mv (.t 5)), []⟩,
    ⟨(some 7), (some (6, true)), .q (.mv (.t 0)), []⟩,
    ⟨(some 8), (some (6, true)), .q (.bin .leq (.t 7) (.v (.int .u8 90))), []⟩,
    ⟨(some 9), none, .q (.pick (.t 6) (.t 8) (.v (.bool false))), []⟩,
    ⟨(some 3), none, .q (.mv (.t 9)), []⟩]
def c31_2 : ACode := .ops [
    ⟨(some 10), none, .q (.mv (.t 0)), []⟩,
    ⟨(some 11), none, .q (.bin .sub (.t 10) (.v (.int .u8 65))), []⟩,
    ⟨(some 12), none, .q (.conv .i64 (.t 11)), []⟩,
    ⟨(some 13), none, .q (.bin .add (.t 12) (.v (.int .i64 1))), []⟩,
    ⟨(some 2), none, .q (.mv (.t 13)), []⟩]
def c31_3 : ACode := .seq c31_2 .ret
def c31_4 : ACode := .ops [
    ⟨(some 15), none, .q (.mv (.t 0)), []⟩,
    ⟨(some 16), none, .q (.bin .geq (.t 15) (.v (.int .u8 97))), []⟩,
    ⟨(some 17), none, .q (.mv (.t 16)), []⟩,
    ⟨(some 18), (some (17, true)), .q (.mv (.t 0)), []⟩,
    ⟨(some 19), (some (17, true)), .q (.bin .leq (.t 18) (.v (.int .u8 122))), []⟩,
    ⟨(some 20), none, .q (.pick (.t 17) (.t 19) (.v (.bool false))), []⟩,
    ⟨(some 14), none, .q (.mv (.t 20)), []⟩]
def c31_5 : ACode := .ops [
    ⟨(some 21), none, .q (.mv (.t 0)), []⟩,
    ⟨(some 22), none, .q (.bin .sub (.t 21) (.v (.int .u8 97))), []⟩,
    ⟨(some 23), none, .q (.conv .i64 (.t 22)), []⟩,
    ⟨(some 24), none, .q (.bin .add (.t 23) (.v (.int .i64 1))), []⟩,
    ⟨(some 2), none, .q (.mv (.t 24)), []⟩]
def c31_6 : ACode := .seq c31_5 .ret
def c31_7 : ACode := .cond (.t 14) c31_6 .skip
def c31_8 : ACode := .seq c31_4 c31_7
def c31_9 : ACode := .cond (.t 3) c31_3 c31_8
def c31_10 : ACode := .seq c31_1 c31_9
def c31_11 : ACode := .block 0 c31_10
def c31_12 : ACode := .ops [
    ⟨(some 2), none, .q (.mv (.v (.int .i64 0))), []⟩]
def c31_13 : ACode := .seq c31_12 .ret
def c31_14 : ACode := .seq c31_11 c31_13
def c31_15 : ACode := .seq c31_0 c31_14
@[go_sem] theorem c31_0_wp (P : Program) (Q : APost) (a : AFr) (σ : ASt) : c31_0.wp P Q a σ = ACode.wp P (.ops [
    ⟨(some 2), none, .q (.mv (.v (.int .i64 0))), []⟩]) Q a σ := id rfl
@[go_sem] theorem c31_1_wp (P : Program) (Q : APost) (a : AFr) (σ : ASt) : c31_1.wp P Q a σ = ACode.wp P (.ops [
    ⟨(some 4), none, .q (.mv (.t 0)), []⟩,
    ⟨(some 5), none, .q (.bin .geq (.t 4) (.v (.int .u8 65))), []⟩,
    ⟨(some 6), none, .q (.mv (.t 5)), []⟩,
    ⟨(some 7), (some (6, true)), .q (.mv (.t 0)), []⟩,
    ⟨(some 8), (some (6, true)), .q (.bin .leq (.t 7) (.v (.int .u8 90))), []⟩,
    ⟨(some 9), none, .q (.pick (.t 6) (.t 8) (.v (.bool false))), []⟩,
    ⟨(some 3), none, .q (.mv (.t 9)), []⟩]) Q a σ := id rfl
@[go_sem] theorem c31_2_wp (P : Program) (Q : APost) (a : AFr) (σ : ASt) : c31_2.wp P Q a σ = ACode.wp P (.ops [
    ⟨(some 10), none, .q (.mv (.t 0)), []⟩,
    ⟨(some 11), none, .q (.bin .sub (.t 10) (.v (.int .u8 65))), []⟩,
    ⟨(some 12), none, .q (.conv .i64 (.t 11)), []⟩,
    ⟨(some 13), none, .q (.bin .add (.t 12) (.v (.int .i64 1))), []⟩,
    ⟨(some 2), none, .q (.mv (.t 13)), []⟩]) Q a σ := id rfl
@[go_sem] theorem c31_3_wp (P : Program) (Q : APost) (a : AFr) (σ : ASt) : c31_3.wp P Q a σ = ACode.wp P (.seq c31_2 .ret) Q a σ := id rfl
@[go_sem] theorem c31_4_wp (P : Program) (Q : APost) (a : AFr) (σ : ASt) : c31_4.wp P Q a σ = ACode.wp P (.ops [
    ⟨(some 15), none, .q (.mv (.t 0)), []⟩,
    ⟨(some 16), none, .q (.bin .geq (.t 15) (.v (.int .u8 97))), []⟩,
    ⟨(some 17), none, .q (.mv (.t 16)), []⟩,
    ⟨(some 18), (some (17, true)), .q (.mv (.t 0)), []⟩,
    ⟨(some 19), (some (17, true)), .q (.bin .leq (.t 18) (.v (.int .u8 122))), []⟩,
    ⟨(some 20), none, .q (.pick (.t 17) (.t 19) (.v (.bool false))), []⟩,
    ⟨(some 14), none, .q (.mv (.t 20)), []⟩]) Q a σ := id rfl
@[go_sem] theorem c31_5_wp (P : Program) (Q : APost) (a : AFr) (σ : ASt) : c31_5.wp P Q a σ = ACode.wp P (.ops [
    ⟨(some 21), none, .q (.mv (.t 0)), []⟩,
    ⟨(some 22), none, .q (.bin .sub (.t 21) (.v (.int .u8 97))), []⟩,
    ⟨(some 23), none, .q (.conv .i64 (.t 22)), []⟩,
    ⟨(some 24), none, .q (.bin .add (.t 23) (.v (.int .i64 1))), []⟩,
    ⟨(some 2), none, .q (.mv (.t 24)), []⟩]) Q a σ := id rfl
@[go_sem] theorem c31_6_wp (P : Program) (Q : APost) (a : AFr) (σ : ASt) : c31_6.wp P Q a σ = ACode.wp P (.seq c31_5 .ret) Q a σ := id rfl
@[go_sem] theorem c31_7_wp (P : Program) (Q : APost) (a : AFr) (σ : ASt) : c31_7.wp P Q a σ = ACode.wp P (.cond (.t 14) c31_6 .skip) Q a σ := id rfl
@[go_sem] theorem c31_8_wp (P : Program) (Q : APost) (a : AFr) (σ : ASt) : c31_8.wp P Q a σ = ACode.wp P (.seq c31_4 c31_7) Q a σ := id rfl
@[go_sem] theorem c31_9_wp (P : Program) (Q : APost) (a : AFr) (σ : ASt) : c31_9.wp P Q a σ = ACode.wp P (.cond (.t 3) c31_3 c31_8) Q a σ := id rfl
@[go_sem] theorem c31_10_wp (P : Program) (Q : APost) (a : AFr) (σ : ASt) : c31_10.wp P Q a σ = ACode.wp P (.seq c31_1 c31_9) Q a σ := id rfl
@[go_sem] theorem c31_11_wp (P : Program) (Q : APost) (a : AFr) (σ : ASt) : c31_11.wp P Q a σ = ACode.wp P (.block 0 c31_10) Q a σ := id rfl
@[go_sem] theorem c31_12_wp (P : Program) (Q : APost) (a : AFr) (σ : ASt) : c31_12.wp P Q a σ = ACode.wp P (.ops [
    ⟨(some 2), none, .q (.mv (.v (.int .i64 0))), []⟩]) Q a σ := id rfl
@[go_sem] theorem c31_13_wp (P : Program) (Q : APost) (a : AFr) (σ : ASt) : c31_13.wp P Q a σ = ACode.wp P (.seq c31_12 .ret) Q a σ := id rfl
@[go_sem] theorem c31_14_wp (P : Program) (Q : APost) (a : AFr) (σ : ASt) : c31_14.wp P Q a σ = ACode.wp P (.seq c31_11 c31_13) Q a σ := id rfl
@[go_sem] theorem c31_15_wp (P : Program) (Q : APost) (a : AFr) (σ : ASt) : c31_15.wp P Q a σ = ACode.wp P (.seq c31_0 c31_14) Q a σ := id rfl
def c31 : AFn := ⟨25, [.t 2], c31_15⟩
set_option maxRecDepth 100000 in
theorem c31_ok : compF Tryd.prog Tryd.f31 = some c31 := by kernel_rfl
theorem a31 {args : List AV} {σ : ASt} {R : AV → ASt → Prop} (hl : args.length ≤ 25) (h : c31_15.wp Tryd.prog (RetQ [.t 2] R) (init args) σ) : ACalls Tryd.prog 31 args σ R := acalls_of Tryd.func31 c31_ok hl h

/-! 32: tabular/addr.Column -/
def c32_0 : ACode := .ops [
    ⟨(some 2), none, .q (.mv (.v (.int .i64 0))), []⟩,
    ⟨(some 3), none, .q (.mv (.v (.bool false))), []⟩]
def c32_1 : ACode := .ops [
    ⟨(some 4), none, .q (.mv (.v (.int .i64 0))), []⟩]
def c32_2 : ACode := .ops [
    ⟨(some 7), none, .q (.mv (.t 0)), []⟩,
    ⟨(some 8), none, .e (.s2b (.t 7)), []⟩,
    ⟨(some 9), none, .q (.len (.t 8)), []⟩,
    ⟨(some 10), none, .q (.mv (.v (.int .i64 0))), []⟩]
def c32_3 : ACode := .ops [
    ⟨(some 11), none, .q (.bin .lss (.t 10) (.t 9)), []⟩]
def c32_4 : ACode := .cond (.t 11) .skip (.exit 0)
def c32_5 : ACode := .ops [
    ⟨(some 12), none, .q (.ia 1 (.t 8) (.t 10)), []⟩,
    ⟨(some 13), none, .q (.ld none (.t 12)), []⟩,
    ⟨(some 6), none, .q (.mv (.t 13)), []⟩]
def c32_6 : ACode := .ops [
    ⟨(some 14), none, .q (.mv (.t 6)), []⟩,
    ⟨(some 15), none, .e (.call 31 [(.t 14)]), []⟩,
    ⟨(some 16), none, .q (.bin .eql (.t 15) (.v (.int .i64 0))), []⟩,
    ⟨(some 17), none, .q (.mv (.t 16)), []⟩,
    ⟨(some 18), (some (17, false)), .q (.mv (.t 4)), []⟩,
    ⟨(some 19), (some (17, false)), .q (.bin .gtr (.t 18) (.v (.int .i64 700))), []⟩,
    ⟨(some 20), none, .q (.pick (.t 17) (.v (.bool true)) (.t 19)), []⟩]
def c32_7 : ACode := .ops [
    ⟨(some 2), none, .q (.mv (.v (.int .i64 0))), []⟩,
    ⟨(some 3), none, .q (.mv (.v (.bool false))), []⟩]
def c32_8 : ACode := .seq c32_7 .ret
def c32_9 : ACode := .cond (.t 20) c32_8 .skip
def c32_10 : ACode := .seq c32_6 c32_9
def c32_11 : ACode := .ops [
    ⟨(some 21), none, .q (.mv (.t 4)), []⟩,
    ⟨(some 22), none, .q (.bin .mul (.v (.int .i64 26)) (.t 21)), []⟩,
    ⟨(some 23), none, .q (.mv (.t 6)), []⟩,
    ⟨(some 24), none, .e (.call 31 [(.t 23)]), []⟩,
    ⟨(some 25), none, .q (.bin .add (.t 22) (.t 24)), []⟩,
    ⟨(some 4), none, .q (.mv (.t 25)), []⟩]
def c32_12 : ACode := .seq c32_10 c32_11
def c32_13 : ACode := .seq c32_5 c32_12
def c32_14 : ACode := .block 1 c32_13
def c32_15 : ACode := .ops [
    ⟨(some 26), none, .q (.bin .add (.t 10) (.v (.int .i64 1))), []⟩,
    ⟨(some 10), none, .q (.mv (.t 26)), []⟩]
def c32_16 : ACode := .seq c32_14 c32_15
def c32_17 : ACode := .seq c32_4 c32_16
def c32_18 : ACode := .seq c32_3 c32_17
def c32_19 : ACode := .loop c32_18
def c32_20 : ACode := .block 0 c32_19
def c32_21 : ACode := .seq c32_2 c32_20
def c32_22 : ACode := .ops [
    ⟨(some 27), none, .q (.mv (.t 4)), []⟩,
    ⟨(some 28), none, .q (.bin .lss (.t 27) (.v (.int .i64 1))), []⟩,
    ⟨(some 29), none, .q (.mv (.t 28)), []⟩,
    ⟨(some 30), (some (29, false)), .q (.mv (.t 4)), []⟩,
    ⟨(some 31), (some (29, false)), .q (.bin .gtr (.t 30) (.v (.int .i64 700))), []⟩,
    ⟨(some 32), none, .q (.pick (.t 29) (.v (.bool true)) (.t 31)), []⟩]
def c32_23 : ACode := .ops [
    ⟨(some 2), none, .q (.mv (.v (.int .i64 0))), []⟩,
    ⟨(some 3), none, .q (.mv (.v (.bool false))), []⟩]
def c32_24 : ACode := .seq c32_23 .ret
def c32_25 : ACode := .cond (.t 32) c32_24 .skip
def c32_26 : ACode := .seq c32_22 c32_25
def c32_27 : ACode := .ops [
    ⟨(some 33), none, .q (.mv (.t 4)), []⟩,
    ⟨(some 34), none, .q (.bin .sub (.t 33) (.v (.int .i64 1))), []⟩,
    ⟨(some 2), none, .q (.mv (.t 34)), []⟩,
    ⟨(some 3), none, .q (.mv (.v (.bool true))), []⟩]
def c32_28 : ACode := .seq c32_27 .ret
def c32_29 : ACode := .seq c32_26 c32_28
def c32_30 : ACode := .seq c32_21 c32_29
def c32_31 : ACode := .seq c32_1 c32_30
def c32_32 : ACode := .seq c32_0 c32_31
@[go_sem] theorem c32_0_wp (P : Program) (Q : APost) (a : AFr) (σ : ASt) : c32_0.wp P Q a σ = ACode.wp P (.ops [
    ⟨(some 2), none, .q (.mv (.v (.int .i64 0))), []⟩,
    ⟨(some 3), none, .q (.mv (.v (.bool false))), []⟩]) Q a σ := id rfl
@[go_sem] theorem c32_1_wp (P : Program) (Q : APost) (a : AFr) (σ : ASt) : c32_1.wp P Q a σ = ACode.wp P (.ops [
    ⟨(some 4), none, .q (.mv (.v (.int .i64 0))), []⟩]) Q a σ := id rfl
@[go_sem] theorem c32_2_wp (P : Program) (Q : APost) (a : AFr) (σ : ASt) : c32_2.wp P Q a σ = ACode.wp P (.ops [
    ⟨(some 7), none, .q (.mv (.t 0)), []⟩,
    ⟨(some 8), none, .e (.s2b (.t 7)), []⟩,
    ⟨(some 9), none, .q (.len (.t 8)), []⟩,
    ⟨(some 10), none, .q (.mv (.v (.int .i64 0))), []⟩]) Q a σ := id rfl
@[go_sem] theorem c32_3_wp (P : Program) (Q : APost) (a : AFr) (σ : ASt) : c32_3.wp P Q a σ = ACode.wp P (.ops [
    ⟨(some 11), none, .q (.bin .lss (.t 10) (.t 9)), []⟩]) Q a σ := id rfl
@[go_sem] theorem c32_4_wp (P : Program) (Q : APost) (a : AFr) (σ : ASt) : c32_4.wp P Q a σ = ACode.wp P (.cond (.t 11) .skip (.exit 0)) Q a σ := id rfl
@[go_sem] theorem c32_5_wp (P : Program) (Q : APost) (a : AFr) (σ : ASt) : c32_5.wp P Q a σ = ACode.wp P (.ops [
    ⟨(some 12), none, .q (.ia 1 (.t 8) (.t 10)), []⟩,
    ⟨(some 13), none, .q (.ld none (.t 12)), []⟩,
    ⟨(some 6), none, .q (.mv (.t 13)), []⟩]) Q a σ := id rfl
@[go_sem] theorem c32_6_wp (P : Program) (Q : APost) (a : AFr) (σ : ASt) : c32_6.wp P Q a σ = ACode.wp P (.ops [
    ⟨(some 14), none, .q (.mv (.t 6)), []⟩,
    ⟨(some 15), none, .e (.call 31 [(.t 14)]), []⟩,
    ⟨(some 16), none, .q (.bin .eql (.t 15) (.v (.int .i64 0))), []⟩,
    ⟨(some 17), none, .q (.mv (.t 16)), []⟩,
    ⟨(some 18), (some (17, false)), .q (.mv (.t 4)), []⟩,
    ⟨(some 19), (some (17, false)), .q (.bin .gtr (.t 18) (.v (.int .i64 700))), []⟩,
    ⟨(some 20), none, .q (.pick (.t 17) (.v (.bool true)) (.t 19)), []⟩]) Q a σ := id rfl
@[go_sem] theorem c32_7_wp (P : Program) (Q : APost) (a : AFr) (σ : ASt) : c32_7.wp P Q a σ = ACode.wp P (.ops [
    ⟨(some 2), none, .q (.mv (.v (.int .i64 0))), []⟩,
    ⟨(some 3), none, .q (.mv (.v (.bool false))), []⟩]) Q a σ := id rfl
@[go_sem] theorem c32_8_wp (P : Program) (Q : APost) (a : AFr) (σ : ASt) : c32_8.wp P Q a σ = ACode.wp P (.seq c32_7 .ret) Q a σ := id rfl
@[go_sem] theorem c32_9_wp (P : Program) (Q : APost) (a : AFr) (σ : ASt) : c32_9.wp P Q a σ = ACode.wp P (.cond (.t 20) c32_8 .skip) Q a σ := id rfl
@[go_sem] theorem c32_10_wp (P : Program) (Q : APost) (a : AFr) (σ : ASt) : c32_10.wp P Q a σ = ACode.wp P (.seq c32_6 c32_9) Q a σ := id rfl
@[go_sem] theorem c32_11_wp (P : Program) (Q : APost) (a : AFr) (σ : ASt) : c32_11.wp P Q a σ = ACode.wp P (.ops [
    ⟨(some 21), none, .q (.mv (.t 4)), []⟩,
    ⟨(some 22), none, .q (.bin .mul (.v (.int .i64 26)) (.t 21)), []⟩,
    ⟨(some 23), none, .q (.mv (.t 6)), []⟩,
    ⟨(some 24), none, .e (.call 31 [(.t 23)]), []⟩,
    ⟨(some 25), none, .q (.bin .add (.t 22) (.t 24)), []⟩,
    ⟨(some 4), none, .q (.mv (.t 25)), []⟩]) Q a σ := id rfl
@[go_sem] theorem c32_12_wp (P : Program) (Q : APost) (a : AFr) (σ : ASt) : c32_12.wp P Q a σ = ACode.wp P (.seq c32_10 c32_11) Q a σ := id rfl
@[go_sem] theorem c32_13_wp (P : Program) (Q : APost) (a : AFr) (σ : ASt) : c32_13.wp P Q a σ = ACode.wp P (.seq c32_5 c32_12) Q a σ := id rfl
@[go_sem] theorem c32_14_wp (P : Program) (Q : APost) (a : AFr) (σ : ASt) : c32_14.wp P Q a σ = ACode.wp P (.block 1 c32_13) Q a σ := id rfl
@[go_sem] theorem c32_15_wp (P : Program) (Q : APost) (a : AFr) (σ : ASt) : c32_15.wp P Q a σ = ACode.wp P (.ops [
    ⟨(some 26), none, .q (.bin .add (.t 10) (.v (.int .i64 1))), []⟩,
    ⟨(some 10), none, .q (.mv (.t 26)), []⟩]) Q a σ := id rfl
@[go_sem] theorem c32_16_wp (P : Program) (Q : APost) (a : AFr) (σ : ASt) : c32_16.wp P Q a σ = ACode.wp P (.seq c32_14 c32_15) Q a σ := id rfl
@[go_sem] theorem c32_17_wp (P : Program) (Q : APost) (a : AFr) (σ : ASt) : c32_17.wp P Q a σ = ACode.wp P (.seq c32_4 c32_16) Q a σ := id rfl
@[go_sem] theorem c32_18_wp (P : Program) (Q : APost) (a : AFr) (σ : ASt) : c32_18.wp P Q a σ = ACode.wp P (.seq c32_3 c32_17) Q a σ := id rfl
@[go_sem] theorem c32_19_wp (P : Program) (Q : APost) (a : AFr) (σ : ASt) : c32_19.wp P Q a σ = ACode.wp P (.loop c32_18) Q a σ := id rfl
@[go_sem] theorem c32_20_wp (P : Program) (Q : APost) (a : AFr) (σ : ASt) : c32_20.wp P Q a σ = ACode.wp P (.block 0 c32_19) Q a σ := id rfl
@[go_sem] theorem c32_21_wp (P : Program) (Q : APost) (a : AFr) (σ : ASt) : c32_21.wp P Q a σ = ACode.wp P (.seq c32_2 c32_20) Q a σ := id rfl
@[go_sem] theorem c32_22_wp (P : Program) (Q : APost) (a : AFr) (σ : ASt) : c32_22.wp P Q a σ = ACode.wp P (.ops [
    ⟨(some 27), none, .q (.mv (.t 4)), []⟩,
    ⟨(some 28), none, .q (.bin .lss (.t 27) (.v (.int .i64 1))), []⟩,
    ⟨(some 29), none, .q (.mv (.t 28)), []⟩,
    ⟨(some 30), (some (29, false)), .q (.mv (.t 4)), []⟩,
    ⟨(some 31), (some (29, false)), .q (.bin .gtr (.t 30) (.v (.int .i64 700))), []⟩,
    ⟨(some 32), none, .q (.pick (.t 29) (.v (.bool true)) (.t 31)), []⟩]) Q a σ := id rfl
@[go_sem] theorem c32_23_wp (P : Program) (Q : APost) (a : AFr) (σ : ASt) : c32_23.wp P Q a σ = ACode.wp P (.ops [
    ⟨(some 2), none, .q (.mv (.v (.int .i64 0))), []⟩,
    ⟨(some 3), none, .q (.mv (.v (.bool false))), []⟩]) Q a σ := id rfl
@[go_sem] theorem c32_24_wp (P : Program) (Q : APost) (a : AFr) (σ : ASt) : c32_24.wp P Q a σ = ACode.wp P (.seq c32_23 .ret) Q a σ := id rfl
@[go_sem] theorem c32_25_wp (P : Program) (Q : APost) (a : AFr) (σ : ASt) : c32_25.wp P Q a σ = ACode.wp P (.cond (.t 32) c32_24 .skip) Q a σ := id rfl
@[go_sem] theorem c32_26_wp (P : Program) (Q : APost) (a : AFr) (σ : ASt) : c32_26.wp P Q a σ = ACode.wp P (.seq c32_22 c32_25) Q a σ := id rfl
@[go_sem] theorem c32_27_wp (P : Program) (Q : APost) (a : AFr) (σ : ASt) : c32_27.wp P Q a σ = ACode.wp P (.ops [
    ⟨(some 33), none, .q (.mv (.t 4)), []⟩,
    ⟨(some 34), none, .q (.bin .sub (.t 33) (.v (.int .i64 1))), []⟩,
    ⟨(some 2), none, .q (.mv (.t 34)), []⟩,
    ⟨(some 3), none, .q (.mv (.v (.bool true))), []⟩]) Q a σ := id rfl
@[go_sem] theorem c32_28_wp (P : Program) (Q : APost) (a : AFr) (σ : ASt) : c32_28.wp P Q a σ = ACode.wp P (.seq c32_27 .ret) Q a σ := id rfl
@[go_sem] theorem c32_29_wp (P : Program) (Q : APost) (a : AFr) (σ : ASt) : c32_29.wp P Q a σ = ACode.wp P (.seq c32_26 c32_28) Q a σ := id rfl
@[go_sem] theorem c32_30_wp (P : Program) (Q : APost) (a : AFr) (σ : ASt) : c32_30.wp P Q a σ = ACode.wp P (.seq c32_21 c32_29) Q a σ := id rfl
@[go_sem] theorem c32_31_wp (P : Program) (Q : APost) (a : AFr) (σ : ASt) : c32_31.wp P Q a σ = ACode.wp P (.seq c32_1 c32_30) Q a σ := id rfl
@[go_sem] theorem c32_32_wp (P : Program) (Q : APost) (a : AFr) (σ : ASt) : c32_32.wp P Q a σ = ACode.wp P (.seq c32_0 c32_31) Q a σ := id rfl
def c32 : AFn := ⟨35, [.t 2, .t 3], c32_32⟩
set_option maxRecDepth 100000 in
theorem c32_ok : compF Tryd.prog Tryd.f32 = some c32 := by kernel_rfl
theorem a32 {args : List AV} {σ : ASt} {R : AV → ASt → Prop} (hl : args.length ≤ 35) (h : c32_32.wp Tryd.prog (RetQ [.t 2, .t 3] R) (init args) σ) : ACalls Tryd.prog 32 args σ R := acalls_of Tryd.func32 c32_ok hl h

/-! 33: tabular/addr.at -/
def c33_0 : ACode := .ops [
    ⟨(some 4), none, .q (.mv (.v (.int .u8 0))), []⟩]
def c33_1 : ACode := .ops [
    ⟨(some 5), none, .q (.mv (.t 1)), []⟩,
    ⟨(some 6), none, .q (.mv (.t 0)), []⟩,
    ⟨(some 7), none, .q (.lenS (.t 6)), []⟩,
    ⟨(some 8), none, .q (.bin .lss (.t 5) (.t 7)), []⟩]
def c33_2 : ACode := .ops [
    ⟨(some 9), none, .q (.mv (.t 0)), []⟩,
    ⟨(some 10), none, .q (.mv (.t 1)), []⟩,
    ⟨(some 11), none, .q (.idx (.t 9) (.t 10)), []⟩,
    ⟨(some 4), none, .q (.mv (.t 11)), []⟩]
def c33_3 : ACode := .seq c33_2 .ret
def c33_4 : ACode := .cond (.t 8) c33_3 .skip
def c33_5 : ACode := .seq c33_1 c33_4
def c33_6 : ACode := .ops [
    ⟨(some 4), none, .q (.mv (.v (.int .u8 0))), []⟩]
def c33_7 : ACode := .seq c33_6 .ret
def c33_8 : ACode := .seq c33_5 c33_7
def c33_9 : ACode := .seq c33_0 c33_8
@[go_sem] theorem c33_0_wp (P : Program) (Q : APost) (a : AFr) (σ : ASt) : c33_0.wp P Q a σ = ACode.wp P (.ops [
    ⟨(some 4), none, .q (.mv (.v (.int .u8 0))), []⟩]) Q a σ := id rfl
@[go_sem] theorem c33_1_wp (P : Program) (Q : APost) (a : AFr) (σ : ASt) : c33_1.wp P Q a σ = ACode.wp P (.ops [
    ⟨(some 5), none, .q (.mv (.t 1)), []⟩,
    ⟨(some 6), none, .q (.mv (.t 0)), []⟩,
    ⟨(some 7), none, .q (.lenS (.t 6)), []⟩,
    ⟨(some 8), none, .q (.bin .lss (.t 5) (.t 7)), []⟩]) Q a σ := id rfl
@[go_sem] theorem c33_2_wp (P : Program) (Q : APost) (a : AFr) (σ : ASt) : c33_2.wp P Q a σ = ACode.wp P (.ops [
    ⟨(some 9), none, .q (.mv (.t 0)), []⟩,
    ⟨(some 10), none, .q (.mv (.t 1)), []⟩,
    ⟨(some 11), none, .q (.idx (.t 9) (.t 10)), []⟩,
    ⟨(some 4), none, .q (.mv (.t 11)), []⟩]) Q a σ := id rfl
@[go_sem] theorem c33_3_wp (P : Program) (Q : APost) (a : AFr) (σ : ASt) : c33_3.wp P Q a σ = ACode.wp P (.seq c33_2 .ret) Q a σ := id rfl
@[go_sem] theorem c33_4_wp (P : Program) (Q : APost) (a : AFr) (σ : ASt) : c33_4.wp P Q a σ = ACode.wp P (.cond (.t 8) c33_3 .skip) Q a σ := id rfl
@[go_sem] theorem c33_5_wp (P : Program) (Q : APost) (a : AFr) (σ : ASt) : c33_5.wp P Q a σ = ACode.wp P (.seq c33_1 c33_4) Q a σ := id rfl
@[go_sem] theorem c33_6_wp (P : Program) (Q : APost) (a : AFr) (σ : ASt) : c33_6.wp P Q a σ = ACode.wp P (.ops [
    ⟨(some 4), none, .q (.mv (.v (.int .u8 0))), []⟩]) Q a σ := id rfl
@[go_sem] theorem c33_7_wp (P : Program) (Q : APost) (a : AFr) (σ : ASt) : c33_7.wp P Q a σ = ACode.wp P (.seq c33_6 .ret) Q a σ := id rfl
@[go_sem] theorem c33_8_wp (P : Program) (Q : APost) (a : AFr) (σ : ASt) : c33_8.wp P Q a σ = ACode.wp P (.seq c33_5 c33_7) Q a σ := id rfl
@[go_sem] theorem c33_9_wp (P : Program) (Q : APost) (a : AFr) (σ : ASt) : c33_9.wp P Q a σ = ACode.wp P (.seq c33_0 c33_8) Q a σ := id rfl
def c33 : AFn := ⟨12, [.t 4], c33_9⟩
set_option maxRecDepth 100000 in
theorem c33_ok : compF Tryd.prog Tryd.f33 = some c33 := by kernel_rfl
theorem a33 {args : List AV} {σ : ASt} {R : AV → ASt → Prop} (hl : args.length ≤ 12) (h : c33_9.wp Tryd.prog (RetQ [.t 4] R) (init args) σ) : ACalls Tryd.prog 33 args σ R := acalls_of Tryd.func33 c33_ok hl h

/-! 98: math/bits.TrailingZeros32 -/
def c98_0 : ACode := .ops [
    ⟨(some 2), none, .q (.mv (.v (.int .i64 0))), []⟩]
def c98_1 : ACode := .ops [
    ⟨(some 3), none, .q (.mv (.t 0)), []⟩,
    ⟨(some 4), none, .q (.bin .eql (.t 3) (.v (.int .u32 0))), []⟩]
def c98_2 : ACode := .ops [
    ⟨(some 2), none, .q (.mv (.v (.int .i64 32))), []⟩]
def c98_3 : ACode := .seq c98_2 .ret
def c98_4 : ACode := .cond (.t 4) c98_3 .skip
def c98_5 : ACode := .seq c98_1 c98_4
def c98_6 : ACode := .ops [
    ⟨(some 5), none, .q (.mv (.t 0)), []⟩,
    ⟨(some 6), none, .q (.mv (.t 0)), []⟩,
    ⟨(some 7), none, .q (.un .neg (.t 6)), []⟩,
    ⟨(some 8), none, .q (.bin .and (.t 5) (.t 7)), []⟩,
    ⟨(some 9), none, .q (.bin .mul (.t 8) (.v (.int .u32 125613361))), []⟩,
    ⟨(some 10), none, .q (.bin .shr (.t 9) (.v (.int .u64 27))), []⟩,
    ⟨(some 11), none, .q (.iaa 32 1 (.v (.ptr 4 0)) (.t 10)), []⟩,
    ⟨(some 12), none, .q (.ld none (.t 11)), []⟩,
    ⟨(some 13), none, .q (.conv .i64 (.t 12)), []⟩,
    ⟨(some 2), none, .q (.mv (.t 13)), []⟩]
def c98_7 : ACode := .seq c98_6 .ret
def c98_8 : ACode := .seq c98_5 c98_7
def c98_9 : ACode := .seq c98_0 c98_8
@[go_sem] theorem c98_0_wp (P : Program) (Q : APost) (a : AFr) (σ : ASt) : c98_0.wp P Q a σ = ACode.wp P (.ops [
    ⟨(some 2), none, .q (.mv (.v (.int .i64 0))), []⟩]) Q a σ := id rfl
@[go_sem] theorem c98_1_wp (P : Program) (Q : APost) (a : AFr) (σ : ASt) : c98_1.wp P Q a σ = ACode.wp P (.ops [
    ⟨(some 3), none, .q (.mv (.t 0)), []⟩,
    ⟨(some 4), none, .q (.bin .eql (.t 3) (.v (.int .u32 0))), []⟩]) Q a σ := id rfl
@[go_sem] theorem c98_2_wp (P : Program) (Q : APost) (a : AFr) (σ : ASt) : c98_2.wp P Q a σ = ACode.wp P (.ops [
    ⟨(some 2), none, .q (.mv (.v (.int .i64 32))), []⟩]) Q a σ := id rfl
@[go_sem] theorem c98_3_wp (P : Program) (Q : APost) (a : AFr) (σ : ASt) : c98_3.wp P Q a σ = ACode.wp P (.seq c98_2 .ret) Q a σ := id rfl
@[go_sem] theorem c98_4_wp (P : Program) (Q : APost) (a : AFr) (σ : ASt) : c98_4.wp P Q a σ = ACode.wp P (.cond (.t 4) c98_3 .skip) Q a σ := id rfl
@[go_sem] theorem c98_5_wp (P : Program) (Q : APost) (a : AFr) (σ : ASt) : c98_5.wp P Q a σ = ACode.wp P (.seq c98_1 c98_4) Q a σ := id rfl
@[go_sem] theorem c98_6_wp (P : Program) (Q : APost) (a : AFr) (σ : ASt) : c98_6.wp P Q a σ = ACode.wp P (.ops [
    ⟨(some 5), none, .q (.mv (.t 0)), []⟩,
    ⟨(some 6), none, .q (.mv (.t 0)), []⟩,
    ⟨(some 7), none, .q (.un .neg (.t 6)), []⟩,
    ⟨(some 8), none, .q (.bin .and (.t 5) (.t 7)), []⟩,
    ⟨(some 9), none, .q (.bin .mul (.t 8) (.v (.int .u32 125613361))), []⟩,
    ⟨(some 10), none, .q (.bin .shr (.t 9) (.v (.int .u64 27))), []⟩,
    ⟨(some 11), none, .q (.iaa 32 1 (.v (.ptr 4 0)) (.t 10)), []⟩,
    ⟨(some 12), none, .q (.ld none (.t 11)), []⟩,
    ⟨(some 13), none, .q (.conv .i64 (.t 12)), []⟩,
    ⟨(some 2), none, .q (.mv (.t 13)), []⟩]) Q a σ := id rfl
@[go_sem] theorem c98_7_wp (P : Program) (Q : APost) (a : AFr) (σ : ASt) : c98_7.wp P Q a σ = ACode.wp P (.seq c98_6 .ret) Q a σ := id rfl
@[go_sem] theorem c98_8_wp (P : Program) (Q : APost) (a : AFr) (σ : ASt) : c98_8.wp P Q a σ = ACode.wp P (.seq c98_5 c98_7) Q a σ := id rfl
@[go_sem] theorem c98_9_wp (P : Program) (Q : APost) (a : AFr) (σ : ASt) : c98_9.wp P Q a σ = ACode.wp P (.seq c98_0 c98_8) Q a σ := id rfl
def c98 : AFn := ⟨14, [.t 2], c98_9⟩
set_option maxRecDepth 100000 in
theorem c98_ok : compF Tryd.prog Tryd.f98 = some c98 := by kernel_rfl
theorem a98 {args : List AV} {σ : ASt} {R : AV → ASt → Prop} (hl : args.length ≤ 14) (h : c98_9.wp Tryd.prog (RetQ [.t 2] R) (init args) σ) : ACalls Tryd.prog 98 args σ R := acalls_of Tryd.func98 c98_ok hl h

end Go.A
