/- The functions, compiled: by program (wip/gencode.py). -/
import Derived.Test.YtfjnahkcfdcbeaaBk
import Derived.Test.YtfjnahkcfdcbeaaProg
import Derived.KernelRfl
namespace Go.A
open Go.Proofs

/-! 3: tabular/tabularlaw10.AddrNames -/
def c3_0 : ACode := .ops [
    ⟨(some 4), none, .q (.mv (.v (.bool false))), []⟩]
def c3_1 : ACode := .ops [
    ⟨(some 9), none, .q (.mv (.t 1)), []⟩,
    ⟨(some 10), none, .e (.call 8 [(.t 9), (.v (.int .i64 10))]), []⟩,
    ⟨(some 1), none, .q (.mv (.t 10)), []⟩]
def c3_2 : ACode := .ops [
    ⟨(some 12), none, .q (.mv (.t 1)), []⟩,
    ⟨(some 13), none, .e (.call 9 [(.t 12)]), []⟩,
    ⟨(some 11), none, .q (.mv (.t 13)), []⟩,
    ⟨(some 14), none, .q (.ext 0 (.t 11)), []⟩,
    ⟨(some 15), none, .q (.ext 1 (.t 11)), []⟩,
    ⟨(some 5), none, .q (.mv (.t 14)), []⟩,
    ⟨(some 6), none, .q (.mv (.t 15)), []⟩]
def c3_3 : ACode := .ops [
    ⟨(some 17), none, .q (.mv (.t 1)), []⟩,
    ⟨(some 18), none, .e (.call 10 [(.t 17)]), []⟩,
    ⟨(some 16), none, .q (.mv (.t 18)), []⟩,
    ⟨(some 19), none, .q (.ext 0 (.t 16)), []⟩,
    ⟨(some 20), none, .q (.ext 1 (.t 16)), []⟩,
    ⟨(some 7), none, .q (.mv (.t 19)), []⟩,
    ⟨(some 8), none, .q (.mv (.t 20)), []⟩]
def c3_4 : ACode := .ops [
    ⟨(some 21), none, .e (.call 11 []), []⟩,
    ⟨(some 22), none, .q (.mv (.t 21)), []⟩,
    ⟨(some 23), (some (22, true)), .q (.mv (.t 0)), []⟩,
    ⟨(some 24), (some (22, true)), .e (.call 12 [(.t 23)]), []⟩,
    ⟨(some 25), (some (22, true)), .q (.mv (.t 0)), []⟩,
    ⟨(some 26), (some (22, true)), .e (.call 13 [(.t 25)]), []⟩,
    ⟨(some 27), (some (22, true)), .q (.bin .eql (.t 24) (.t 26)), []⟩,
    ⟨(some 28), none, .q (.pick (.t 22) (.t 27) (.v (.bool false))), []⟩,
    ⟨(some 29), none, .q (.mv (.t 28)), []⟩,
    ⟨(some 30), (some (29, true)), .q (.mv (.t 5)), []⟩,
    ⟨(some 31), (some (29, true)), .q (.mv (.t 7)), []⟩,
    ⟨(some 32), (some (29, true)), .q (.bin .eql (.t 30) (.t 31)), []⟩,
    ⟨(some 33), none, .q (.pick (.t 29) (.t 32) (.v (.bool false))), []⟩,
    ⟨(some 34), none, .q (.mv (.t 33)), []⟩,
    ⟨(some 35), (some (34, true)), .q (.mv (.t 6)), []⟩,
    ⟨(some 36), (some (34, true)), .q (.mv (.t 8)), []⟩,
    ⟨(some 37), (some (34, true)), .q (.eq .b false (.t 35) (.t 36)), []⟩,
    ⟨(some 38), none, .q (.pick (.t 34) (.t 37) (.v (.bool false))), []⟩,
    ⟨(some 4), none, .q (.mv (.t 38)), []⟩]
def c3_5 : ACode := .seq c3_4 .ret
def c3_6 : ACode := .seq c3_3 c3_5
def c3_7 : ACode := .seq c3_2 c3_6
def c3_8 : ACode := .seq c3_1 c3_7
def c3_9 : ACode := .seq c3_0 c3_8
@[go_sem] theorem c3_0_wp (P : Program) (Q : APost) (a : AFr) (σ : ASt) : c3_0.wp P Q a σ = ACode.wp P (.ops [
    ⟨(some 4), none, .q (.mv (.v (.bool false))), []⟩]) Q a σ := id rfl
@[go_sem] theorem c3_1_wp (P : Program) (Q : APost) (a : AFr) (σ : ASt) : c3_1.wp P Q a σ = ACode.wp P (.ops [
    ⟨(some 9), none, .q (.mv (.t 1)), []⟩,
    ⟨(some 10), none, .e (.call 8 [(.t 9), (.v (.int .i64 10))]), []⟩,
    ⟨(some 1), none, .q (.mv (.t 10)), []⟩]) Q a σ := id rfl
@[go_sem] theorem c3_2_wp (P : Program) (Q : APost) (a : AFr) (σ : ASt) : c3_2.wp P Q a σ = ACode.wp P (.ops [
    ⟨(some 12), none, .q (.mv (.t 1)), []⟩,
    ⟨(some 13), none, .e (.call 9 [(.t 12)]), []⟩,
    ⟨(some 11), none, .q (.mv (.t 13)), []⟩,
    ⟨(some 14), none, .q (.ext 0 (.t 11)), []⟩,
    ⟨(some 15), none, .q (.ext 1 (.t 11)), []⟩,
    ⟨(some 5), none, .q (.mv (.t 14)), []⟩,
    ⟨(some 6), none, .q (.mv (.t 15)), []⟩]) Q a σ := id rfl
@[go_sem] theorem c3_3_wp (P : Program) (Q : APost) (a : AFr) (σ : ASt) : c3_3.wp P Q a σ = ACode.wp P (.ops [
    ⟨(some 17), none, .q (.mv (.t 1)), []⟩,
    ⟨(some 18), none, .e (.call 10 [(.t 17)]), []⟩,
    ⟨(some 16), none, .q (.mv (.t 18)), []⟩,
    ⟨(some 19), none, .q (.ext 0 (.t 16)), []⟩,
    ⟨(some 20), none, .q (.ext 1 (.t 16)), []⟩,
    ⟨(some 7), none, .q (.mv (.t 19)), []⟩,
    ⟨(some 8), none, .q (.mv (.t 20)), []⟩]) Q a σ := id rfl
@[go_sem] theorem c3_4_wp (P : Program) (Q : APost) (a : AFr) (σ : ASt) : c3_4.wp P Q a σ = ACode.wp P (.ops [
    ⟨(some 21), none, .e (.call 11 []), []⟩,
    ⟨(some 22), none, .q (.mv (.t 21)), []⟩,
    ⟨(some 23), (some (22, true)), .q (.mv (.t 0)), []⟩,
    ⟨(some 24), (some (22, true)), .e (.call 12 [(.t 23)]), []⟩,
    ⟨(some 25), (some (22, true)), .q (.mv (.t 0)), []⟩,
    ⟨(some 26), (some (22, true)), .e (.call 13 [(.t 25)]), []⟩,
    ⟨(some 27), (some (22, true)), .q (.bin .eql (.t 24) (.t 26)), []⟩,
    ⟨(some 28), none, .q (.pick (.t 22) (.t 27) (.v (.bool false))), []⟩,
    ⟨(some 29), none, .q (.mv (.t 28)), []⟩,
    ⟨(some 30), (some (29, true)), .q (.mv (.t 5)), []⟩,
    ⟨(some 31), (some (29, true)), .q (.mv (.t 7)), []⟩,
    ⟨(some 32), (some (29, true)), .q (.bin .eql (.t 30) (.t 31)), []⟩,
    ⟨(some 33), none, .q (.pick (.t 29) (.t 32) (.v (.bool false))), []⟩,
    ⟨(some 34), none, .q (.mv (.t 33)), []⟩,
    ⟨(some 35), (some (34, true)), .q (.mv (.t 6)), []⟩,
    ⟨(some 36), (some (34, true)), .q (.mv (.t 8)), []⟩,
    ⟨(some 37), (some (34, true)), .q (.eq .b false (.t 35) (.t 36)), []⟩,
    ⟨(some 38), none, .q (.pick (.t 34) (.t 37) (.v (.bool false))), []⟩,
    ⟨(some 4), none, .q (.mv (.t 38)), []⟩]) Q a σ := id rfl
@[go_sem] theorem c3_5_wp (P : Program) (Q : APost) (a : AFr) (σ : ASt) : c3_5.wp P Q a σ = ACode.wp P (.seq c3_4 .ret) Q a σ := id rfl
@[go_sem] theorem c3_6_wp (P : Program) (Q : APost) (a : AFr) (σ : ASt) : c3_6.wp P Q a σ = ACode.wp P (.seq c3_3 c3_5) Q a σ := id rfl
@[go_sem] theorem c3_7_wp (P : Program) (Q : APost) (a : AFr) (σ : ASt) : c3_7.wp P Q a σ = ACode.wp P (.seq c3_2 c3_6) Q a σ := id rfl
@[go_sem] theorem c3_8_wp (P : Program) (Q : APost) (a : AFr) (σ : ASt) : c3_8.wp P Q a σ = ACode.wp P (.seq c3_1 c3_7) Q a σ := id rfl
@[go_sem] theorem c3_9_wp (P : Program) (Q : APost) (a : AFr) (σ : ASt) : c3_9.wp P Q a σ = ACode.wp P (.seq c3_0 c3_8) Q a σ := id rfl
def c3 : AFn := ⟨39, [.t 4], c3_9⟩
set_option maxRecDepth 100000 in
theorem c3_ok : compF Try.prog Try.f3 = some c3 := by kernel_rfl
theorem a3 {args : List AV} {σ : ASt} {R : AV → ASt → Prop} (hl : args.length ≤ 39) (h : c3_9.wp Try.prog (RetQ [.t 4] R) (init args) σ) : ACalls Try.prog 3 args σ R := acalls_of Try.func3 c3_ok hl h

/-! 8: tabular/tabularlaw01.Cut -/
def c8_0 : ACode := .ops [
    ⟨(some 4), none, .q (.mv (.v (.str []))), []⟩]
def c8_1 : ACode := .ops [
    ⟨(some 5), none, .q (.mv (.t 0)), []⟩,
    ⟨(some 6), none, .q (.lenS (.t 5)), []⟩,
    ⟨(some 7), none, .q (.mv (.t 1)), []⟩,
    ⟨(some 8), none, .q (.bin .gtr (.t 6) (.t 7)), []⟩]
def c8_2 : ACode := .ops [
    ⟨(some 9), none, .q (.mv (.t 0)), []⟩,
    ⟨(some 10), none, .q (.mv (.t 1)), []⟩,
    ⟨(some 11), none, .q (.slto (true, 0) (.t 9) (.t 10)), []⟩,
    ⟨(some 4), none, .q (.mv (.t 11)), []⟩]
def c8_3 : ACode := .seq c8_2 .ret
def c8_4 : ACode := .cond (.t 8) c8_3 .skip
def c8_5 : ACode := .seq c8_1 c8_4
def c8_6 : ACode := .ops [
    ⟨(some 12), none, .q (.mv (.t 0)), []⟩,
    ⟨(some 4), none, .q (.mv (.t 12)), []⟩]
def c8_7 : ACode := .seq c8_6 .ret
def c8_8 : ACode := .seq c8_5 c8_7
def c8_9 : ACode := .seq c8_0 c8_8
@[go_sem] theorem c8_0_wp (P : Program) (Q : APost) (a : AFr) (σ : ASt) : c8_0.wp P Q a σ = ACode.wp P (.ops [
    ⟨(some 4), none, .q (.mv (.v (.str []))), []⟩]) Q a σ := id rfl
@[go_sem] theorem c8_1_wp (P : Program) (Q : APost) (a : AFr) (σ : ASt) : c8_1.wp P Q a σ = ACode.wp P (.ops [
    ⟨(some 5), none, .q (.mv (.t 0)), []⟩,
    ⟨(some 6), none, .q (.lenS (.t 5)), []⟩,
    ⟨(some 7), none, .q (.mv (.t 1)), []⟩,
    ⟨(some 8), none, .q (.bin .gtr (.t 6) (.t 7)), []⟩]) Q a σ := id rfl
@[go_sem] theorem c8_2_wp (P : Program) (Q : APost) (a : AFr) (σ : ASt) : c8_2.wp P Q a σ = ACode.wp P (.ops [
    ⟨(some 9), none, .q (.mv (.t 0)), []⟩,
    ⟨(some 10), none, .q (.mv (.t 1)), []⟩,
    ⟨(some 11), none, .q (.slto (true, 0) (.t 9) (.t 10)), []⟩,
    ⟨(some 4), none, .q (.mv (.t 11)), []⟩]) Q a σ := id rfl
@[go_sem] theorem c8_3_wp (P : Program) (Q : APost) (a : AFr) (σ : ASt) : c8_3.wp P Q a σ = ACode.wp P (.seq c8_2 .ret) Q a σ := id rfl
@[go_sem] theorem c8_4_wp (P : Program) (Q : APost) (a : AFr) (σ : ASt) : c8_4.wp P Q a σ = ACode.wp P (.cond (.t 8) c8_3 .skip) Q a σ := id rfl
@[go_sem] theorem c8_5_wp (P : Program) (Q : APost) (a : AFr) (σ : ASt) : c8_5.wp P Q a σ = ACode.wp P (.seq c8_1 c8_4) Q a σ := id rfl
@[go_sem] theorem c8_6_wp (P : Program) (Q : APost) (a : AFr) (σ : ASt) : c8_6.wp P Q a σ = ACode.wp P (.ops [
    ⟨(some 12), none, .q (.mv (.t 0)), []⟩,
    ⟨(some 4), none, .q (.mv (.t 12)), []⟩]) Q a σ := id rfl
@[go_sem] theorem c8_7_wp (P : Program) (Q : APost) (a : AFr) (σ : ASt) : c8_7.wp P Q a σ = ACode.wp P (.seq c8_6 .ret) Q a σ := id rfl
@[go_sem] theorem c8_8_wp (P : Program) (Q : APost) (a : AFr) (σ : ASt) : c8_8.wp P Q a σ = ACode.wp P (.seq c8_5 c8_7) Q a σ := id rfl
@[go_sem] theorem c8_9_wp (P : Program) (Q : APost) (a : AFr) (σ : ASt) : c8_9.wp P Q a σ = ACode.wp P (.seq c8_0 c8_8) Q a σ := id rfl
def c8 : AFn := ⟨13, [.t 4], c8_9⟩
set_option maxRecDepth 100000 in
theorem c8_ok : compF Try.prog Try.f8 = some c8 := by kernel_rfl
theorem a8 {args : List AV} {σ : ASt} {R : AV → ASt → Prop} (hl : args.length ≤ 13) (h : c8_9.wp Try.prog (RetQ [.t 4] R) (init args) σ) : ACalls Try.prog 8 args σ R := acalls_of Try.func8 c8_ok hl h

/-! 10: tabular/tabularref10.Column -/
def c10_0 : ACode := .ops [
    ⟨(some 2), none, .q (.mv (.v (.int .i64 0))), []⟩,
    ⟨(some 3), none, .q (.mv (.v (.bool false))), []⟩]
def c10_1 : ACode := .ops [
    ⟨(some 6), none, .q (.mv (.t 0)), []⟩,
    ⟨(some 7), none, .e (.call 26 [(.t 6)]), []⟩,
    ⟨(some 0), none, .q (.mv (.t 7)), []⟩]
def c10_2 : ACode := .ops [
    ⟨(some 4), none, .q (.mv (.v (.str [65]))), []⟩]
def c10_3 : ACode := .ops [
    ⟨(some 5), none, .q (.mv (.v (.int .i64 0))), []⟩]
def c10_4 : ACode := .ops [
    ⟨(some 8), none, .q (.mv (.t 5)), []⟩,
    ⟨(some 9), none, .q (.bin .lss (.t 8) (.v (.int .i64 700))), []⟩]
def c10_5 : ACode := .cond (.t 9) .skip (.exit 0)
def c10_6 : ACode := .seq c10_4 c10_5
def c10_7 : ACode := .ops [
    ⟨(some 12), none, .q (.mv (.t 4)), []⟩,
    ⟨(some 13), none, .q (.mv (.t 0)), []⟩,
    ⟨(some 14), none, .q (.bin .eql (.t 12) (.t 13)), []⟩]
def c10_8 : ACode := .ops [
    ⟨(some 15), none, .q (.mv (.t 5)), []⟩,
    ⟨(some 2), none, .q (.mv (.t 15)), []⟩,
    ⟨(some 3), none, .q (.mv (.v (.bool true))), []⟩]
def c10_9 : ACode := .seq c10_8 .ret
def c10_10 : ACode := .cond (.t 14) c10_9 .skip
def c10_11 : ACode := .seq c10_7 c10_10
def c10_12 : ACode := .ops [
    ⟨(some 16), none, .q (.mv (.t 4)), []⟩,
    ⟨(some 17), none, .e (.call 27 [(.t 16)]), []⟩,
    ⟨(some 4), none, .q (.mv (.t 17)), []⟩]
def c10_13 : ACode := .seq c10_11 c10_12
def c10_14 : ACode := .block 1 c10_13
def c10_15 : ACode := .ops [
    ⟨(some 10), none, .q (.mv (.t 5)), []⟩,
    ⟨(some 11), none, .q (.bin .add (.t 10) (.v (.int .i64 1))), []⟩,
    ⟨(some 5), none, .q (.mv (.t 11)), []⟩]
def c10_16 : ACode := .seq c10_14 c10_15
def c10_17 : ACode := .seq c10_6 c10_16
def c10_18 : ACode := .loop c10_17
def c10_19 : ACode := .block 0 c10_18
def c10_20 : ACode := .seq c10_3 c10_19
def c10_21 : ACode := .ops [
    ⟨(some 2), none, .q (.mv (.v (.int .i64 0))), []⟩,
    ⟨(some 3), none, .q (.mv (.v (.bool false))), []⟩]
def c10_22 : ACode := .seq c10_21 .ret
def c10_23 : ACode := .seq c10_20 c10_22
def c10_24 : ACode := .seq c10_2 c10_23
def c10_25 : ACode := .seq c10_1 c10_24
def c10_26 : ACode := .seq c10_0 c10_25
@[go_sem] theorem c10_0_wp (P : Program) (Q : APost) (a : AFr) (σ : ASt) : c10_0.wp P Q a σ = ACode.wp P (.ops [
    ⟨(some 2), none, .q (.mv (.v (.int .i64 0))), []⟩,
    ⟨(some 3), none, .q (.mv (.v (.bool false))), []⟩]) Q a σ := id rfl
@[go_sem] theorem c10_1_wp (P : Program) (Q : APost) (a : AFr) (σ : ASt) : c10_1.wp P Q a σ = ACode.wp P (.ops [
    ⟨(some 6), none, .q (.mv (.t 0)), []⟩,
    ⟨(some 7), none, .e (.call 26 [(.t 6)]), []⟩,
    ⟨(some 0), none, .q (.mv (.t 7)), []⟩]) Q a σ := id rfl
@[go_sem] theorem c10_2_wp (P : Program) (Q : APost) (a : AFr) (σ : ASt) : c10_2.wp P Q a σ = ACode.wp P (.ops [
    ⟨(some 4), none, .q (.mv (.v (.str [65]))), []⟩]) Q a σ := id rfl
@[go_sem] theorem c10_3_wp (P : Program) (Q : APost) (a : AFr) (σ : ASt) : c10_3.wp P Q a σ = ACode.wp P (.ops [
    ⟨(some 5), none, .q (.mv (.v (.int .i64 0))), []⟩]) Q a σ := id rfl
@[go_sem] theorem c10_4_wp (P : Program) (Q : APost) (a : AFr) (σ : ASt) : c10_4.wp P Q a σ = ACode.wp P (.ops [
    ⟨(some 8), none, .q (.mv (.t 5)), []⟩,
    ⟨(some 9), none, .q (.bin .lss (.t 8) (.v (.int .i64 700))), []⟩]) Q a σ := id rfl
@[go_sem] theorem c10_5_wp (P : Program) (Q : APost) (a : AFr) (σ : ASt) : c10_5.wp P Q a σ = ACode.wp P (.cond (.t 9) .skip (.exit 0)) Q a σ := id rfl
@[go_sem] theorem c10_6_wp (P : Program) (Q : APost) (a : AFr) (σ : ASt) : c10_6.wp P Q a σ = ACode.wp P (.seq c10_4 c10_5) Q a σ := id rfl
@[go_sem] theorem c10_7_wp (P : Program) (Q : APost) (a : AFr) (σ : ASt) : c10_7.wp P Q a σ = ACode.wp P (.ops [
    ⟨(some 12), none, .q (.mv (.t 4)), []⟩,
    ⟨(some 13), none, .q (.mv (.t 0)), []⟩,
    ⟨(some 14), none, .q (.bin .eql (.t 12) (.t 13)), []⟩]) Q a σ := id rfl
@[go_sem] theorem c10_8_wp (P : Program) (Q : APost) (a : AFr) (σ : ASt) : c10_8.wp P Q a σ = ACode.wp P (.ops [
    ⟨(some 15), none, .q (.mv (.t 5)), []⟩,
    ⟨(some 2), none, .q (.mv (.t 15)), []⟩,
    ⟨(some 3), none, .q (.mv (.v (.bool true))), []⟩]) Q a σ := id rfl
@[go_sem] theorem c10_9_wp (P : Program) (Q : APost) (a : AFr) (σ : ASt) : c10_9.wp P Q a σ = ACode.wp P (.seq c10_8 .ret) Q a σ := id rfl
@[go_sem] theorem c10_10_wp (P : Program) (Q : APost) (a : AFr) (σ : ASt) : c10_10.wp P Q a σ = ACode.wp P (.cond (.t 14) c10_9 .skip) Q a σ := id rfl
@[go_sem] theorem c10_11_wp (P : Program) (Q : APost) (a : AFr) (σ : ASt) : c10_11.wp P Q a σ = ACode.wp P (.seq c10_7 c10_10) Q a σ := id rfl
@[go_sem] theorem c10_12_wp (P : Program) (Q : APost) (a : AFr) (σ : ASt) : c10_12.wp P Q a σ = ACode.wp P (.ops [
    ⟨(some 16), none, .q (.mv (.t 4)), []⟩,
    ⟨(some 17), none, .e (.call 27 [(.t 16)]), []⟩,
    ⟨(some 4), none, .q (.mv (.t 17)), []⟩]) Q a σ := id rfl
@[go_sem] theorem c10_13_wp (P : Program) (Q : APost) (a : AFr) (σ : ASt) : c10_13.wp P Q a σ = ACode.wp P (.seq c10_11 c10_12) Q a σ := id rfl
@[go_sem] theorem c10_14_wp (P : Program) (Q : APost) (a : AFr) (σ : ASt) : c10_14.wp P Q a σ = ACode.wp P (.block 1 c10_13) Q a σ := id rfl
@[go_sem] theorem c10_15_wp (P : Program) (Q : APost) (a : AFr) (σ : ASt) : c10_15.wp P Q a σ = ACode.wp P (.ops [
    ⟨(some 10), none, .q (.mv (.t 5)), []⟩,
    ⟨(some 11), none, .q (.bin .add (.t 10) (.v (.int .i64 1))), []⟩,
    ⟨(some 5), none, .q (.mv (.t 11)), []⟩]) Q a σ := id rfl
@[go_sem] theorem c10_16_wp (P : Program) (Q : APost) (a : AFr) (σ : ASt) : c10_16.wp P Q a σ = ACode.wp P (.seq c10_14 c10_15) Q a σ := id rfl
@[go_sem] theorem c10_17_wp (P : Program) (Q : APost) (a : AFr) (σ : ASt) : c10_17.wp P Q a σ = ACode.wp P (.seq c10_6 c10_16) Q a σ := id rfl
@[go_sem] theorem c10_18_wp (P : Program) (Q : APost) (a : AFr) (σ : ASt) : c10_18.wp P Q a σ = ACode.wp P (.loop c10_17) Q a σ := id rfl
@[go_sem] theorem c10_19_wp (P : Program) (Q : APost) (a : AFr) (σ : ASt) : c10_19.wp P Q a σ = ACode.wp P (.block 0 c10_18) Q a σ := id rfl
@[go_sem] theorem c10_20_wp (P : Program) (Q : APost) (a : AFr) (σ : ASt) : c10_20.wp P Q a σ = ACode.wp P (.seq c10_3 c10_19) Q a σ := id rfl
@[go_sem] theorem c10_21_wp (P : Program) (Q : APost) (a : AFr) (σ : ASt) : c10_21.wp P Q a σ = ACode.wp P (.ops [
    ⟨(some 2), none, .q (.mv (.v (.int .i64 0))), []⟩,
    ⟨(some 3), none, .q (.mv (.v (.bool false))), []⟩]) Q a σ := id rfl
@[go_sem] theorem c10_22_wp (P : Program) (Q : APost) (a : AFr) (σ : ASt) : c10_22.wp P Q a σ = ACode.wp P (.seq c10_21 .ret) Q a σ := id rfl
@[go_sem] theorem c10_23_wp (P : Program) (Q : APost) (a : AFr) (σ : ASt) : c10_23.wp P Q a σ = ACode.wp P (.seq c10_20 c10_22) Q a σ := id rfl
@[go_sem] theorem c10_24_wp (P : Program) (Q : APost) (a : AFr) (σ : ASt) : c10_24.wp P Q a σ = ACode.wp P (.seq c10_2 c10_23) Q a σ := id rfl
@[go_sem] theorem c10_25_wp (P : Program) (Q : APost) (a : AFr) (σ : ASt) : c10_25.wp P Q a σ = ACode.wp P (.seq c10_1 c10_24) Q a σ := id rfl
@[go_sem] theorem c10_26_wp (P : Program) (Q : APost) (a : AFr) (σ : ASt) : c10_26.wp P Q a σ = ACode.wp P (.seq c10_0 c10_25) Q a σ := id rfl
def c10 : AFn := ⟨18, [.t 2, .t 3], c10_26⟩
set_option maxRecDepth 100000 in
theorem c10_ok : compF Try.prog Try.f10 = some c10 := by kernel_rfl
theorem a10 {args : List AV} {σ : ASt} {R : AV → ASt → Prop} (hl : args.length ≤ 18) (h : c10_26.wp Try.prog (RetQ [.t 2, .t 3] R) (init args) σ) : ACalls Try.prog 10 args σ R := acalls_of Try.func10 c10_ok hl h

/-! 13: tabular/tabularref10.Letters -/
def c13_0 : ACode := .ops [
    ⟨(some 2), none, .q (.mv (.v (.str []))), []⟩]
def c13_1 : ACode := .ops [
    ⟨(some 5), none, .q (.mv (.t 0)), []⟩,
    ⟨(some 6), none, .q (.bin .lss (.t 5) (.v (.int .i64 0))), []⟩,
    ⟨(some 7), none, .q (.mv (.t 6)), []⟩,
    ⟨(some 8), (some (7, false)), .q (.mv (.t 0)), []⟩,
    ⟨(some 9), (some (7, false)), .q (.bin .gtr (.t 8) (.v (.int .i64 699))), []⟩,
    ⟨(some 10), none, .q (.pick (.t 7) (.v (.bool true)) (.t 9)), []⟩]
def c13_2 : ACode := .ops [
    ⟨(some 2), none, .q (.mv (.v (.str []))), []⟩]
def c13_3 : ACode := .seq c13_2 .ret
def c13_4 : ACode := .cond (.t 10) c13_3 .skip
def c13_5 : ACode := .seq c13_1 c13_4
def c13_6 : ACode := .ops [
    ⟨(some 3), none, .q (.mv (.v (.str [65]))), []⟩]
def c13_7 : ACode := .ops [
    ⟨(some 4), none, .q (.mv (.v (.int .i64 0))), []⟩]
def c13_8 : ACode := .ops [
    ⟨(some 11), none, .q (.mv (.t 4)), []⟩,
    ⟨(some 12), none, .q (.mv (.t 0)), []⟩,
    ⟨(some 13), none, .q (.bin .lss (.t 11) (.t 12)), []⟩]
def c13_9 : ACode := .cond (.t 13) .skip (.exit 0)
def c13_10 : ACode := .seq c13_8 c13_9
def c13_11 : ACode := .ops [
    ⟨(some 16), none, .q (.mv (.t 3)), []⟩,
    ⟨(some 17), none, .e (.call 27 [(.t 16)]), []⟩,
    ⟨(some 3), none, .q (.mv (.t 17)), []⟩]
def c13_12 : ACode := .block 1 c13_11
def c13_13 : ACode := .ops [
    ⟨(some 14), none, .q (.mv (.t 4)), []⟩,
    ⟨(some 15), none, .q (.bin .add (.t 14) (.v (.int .i64 1))), []⟩,
    ⟨(some 4), none, .q (.mv (.t 15)), []⟩]
def c13_14 : ACode := .seq c13_12 c13_13
def c13_15 : ACode := .seq c13_10 c13_14
def c13_16 : ACode := .loop c13_15
def c13_17 : ACode := .block 0 c13_16
def c13_18 : ACode := .seq c13_7 c13_17
def c13_19 : ACode := .ops [
    ⟨(some 18), none, .q (.mv (.t 3)), []⟩,
    ⟨(some 2), none, .q (.mv (.t 18)), []⟩]
def c13_20 : ACode := .seq c13_19 .ret
def c13_21 : ACode := .seq c13_18 c13_20
def c13_22 : ACode := .seq c13_6 c13_21
def c13_23 : ACode := .seq c13_5 c13_22
def c13_24 : ACode := .seq c13_0 c13_23
@[go_sem] theorem c13_0_wp (P : Program) (Q : APost) (a : AFr) (σ : ASt) : c13_0.wp P Q a σ = ACode.wp P (.ops [
    ⟨(some 2), none, .q (.mv (.v (.str []))), []⟩]) Q a σ := id rfl
@[go_sem] theorem c13_1_wp (P : Program) (Q : APost) (a : AFr) (σ : ASt) : c13_1.wp P Q a σ = ACode.wp P (.ops [
    ⟨(some 5), none, .q (.mv (.t 0)), []⟩,
    ⟨(some 6), none, .q (.bin .lss (.t 5) (.v (.int .i64 0))), []⟩,
    ⟨(some 7), none, .q (.mv (.t 6)), []⟩,
    ⟨(some 8), (some (7, false)), .q (.mv (.t 0)), []⟩,
    ⟨(some 9), (some (7, false)), .q (.bin .gtr (.t 8) (.v (.int .i64 699))), []⟩,
    ⟨(some 10), none, .q (.pick (.t 7) (.v (.bool true)) (.t 9)), []⟩]) Q a σ := id rfl
@[go_sem] theorem c13_2_wp (P : Program) (Q : APost) (a : AFr) (σ : ASt) : c13_2.wp P Q a σ = ACode.wp P (.ops [
    ⟨(some 2), none, .q (.mv (.v (.str []))), []⟩]) Q a σ := id rfl
@[go_sem] theorem c13_3_wp (P : Program) (Q : APost) (a : AFr) (σ : ASt) : c13_3.wp P Q a σ = ACode.wp P (.seq c13_2 .ret) Q a σ := id rfl
@[go_sem] theorem c13_4_wp (P : Program) (Q : APost) (a : AFr) (σ : ASt) : c13_4.wp P Q a σ = ACode.wp P (.cond (.t 10) c13_3 .skip) Q a σ := id rfl
@[go_sem] theorem c13_5_wp (P : Program) (Q : APost) (a : AFr) (σ : ASt) : c13_5.wp P Q a σ = ACode.wp P (.seq c13_1 c13_4) Q a σ := id rfl
@[go_sem] theorem c13_6_wp (P : Program) (Q : APost) (a : AFr) (σ : ASt) : c13_6.wp P Q a σ = ACode.wp P (.ops [
    ⟨(some 3), none, .q (.mv (.v (.str [65]))), []⟩]) Q a σ := id rfl
@[go_sem] theorem c13_7_wp (P : Program) (Q : APost) (a : AFr) (σ : ASt) : c13_7.wp P Q a σ = ACode.wp P (.ops [
    ⟨(some 4), none, .q (.mv (.v (.int .i64 0))), []⟩]) Q a σ := id rfl
@[go_sem] theorem c13_8_wp (P : Program) (Q : APost) (a : AFr) (σ : ASt) : c13_8.wp P Q a σ = ACode.wp P (.ops [
    ⟨(some 11), none, .q (.mv (.t 4)), []⟩,
    ⟨(some 12), none, .q (.mv (.t 0)), []⟩,
    ⟨(some 13), none, .q (.bin .lss (.t 11) (.t 12)), []⟩]) Q a σ := id rfl
@[go_sem] theorem c13_9_wp (P : Program) (Q : APost) (a : AFr) (σ : ASt) : c13_9.wp P Q a σ = ACode.wp P (.cond (.t 13) .skip (.exit 0)) Q a σ := id rfl
@[go_sem] theorem c13_10_wp (P : Program) (Q : APost) (a : AFr) (σ : ASt) : c13_10.wp P Q a σ = ACode.wp P (.seq c13_8 c13_9) Q a σ := id rfl
@[go_sem] theorem c13_11_wp (P : Program) (Q : APost) (a : AFr) (σ : ASt) : c13_11.wp P Q a σ = ACode.wp P (.ops [
    ⟨(some 16), none, .q (.mv (.t 3)), []⟩,
    ⟨(some 17), none, .e (.call 27 [(.t 16)]), []⟩,
    ⟨(some 3), none, .q (.mv (.t 17)), []⟩]) Q a σ := id rfl
@[go_sem] theorem c13_12_wp (P : Program) (Q : APost) (a : AFr) (σ : ASt) : c13_12.wp P Q a σ = ACode.wp P (.block 1 c13_11) Q a σ := id rfl
@[go_sem] theorem c13_13_wp (P : Program) (Q : APost) (a : AFr) (σ : ASt) : c13_13.wp P Q a σ = ACode.wp P (.ops [
    ⟨(some 14), none, .q (.mv (.t 4)), []⟩,
    ⟨(some 15), none, .q (.bin .add (.t 14) (.v (.int .i64 1))), []⟩,
    ⟨(some 4), none, .q (.mv (.t 15)), []⟩]) Q a σ := id rfl
@[go_sem] theorem c13_14_wp (P : Program) (Q : APost) (a : AFr) (σ : ASt) : c13_14.wp P Q a σ = ACode.wp P (.seq c13_12 c13_13) Q a σ := id rfl
@[go_sem] theorem c13_15_wp (P : Program) (Q : APost) (a : AFr) (σ : ASt) : c13_15.wp P Q a σ = ACode.wp P (.seq c13_10 c13_14) Q a σ := id rfl
@[go_sem] theorem c13_16_wp (P : Program) (Q : APost) (a : AFr) (σ : ASt) : c13_16.wp P Q a σ = ACode.wp P (.loop c13_15) Q a σ := id rfl
@[go_sem] theorem c13_17_wp (P : Program) (Q : APost) (a : AFr) (σ : ASt) : c13_17.wp P Q a σ = ACode.wp P (.block 0 c13_16) Q a σ := id rfl
@[go_sem] theorem c13_18_wp (P : Program) (Q : APost) (a : AFr) (σ : ASt) : c13_18.wp P Q a σ = ACode.wp P (.seq c13_7 c13_17) Q a σ := id rfl
@[go_sem] theorem c13_19_wp (P : Program) (Q : APost) (a : AFr) (σ : ASt) : c13_19.wp P Q a σ = ACode.wp P (.ops [
    ⟨(some 18), none, .q (.mv (.t 3)), []⟩,
    ⟨(some 2), none, .q (.mv (.t 18)), []⟩]) Q a σ := id rfl
@[go_sem] theorem c13_20_wp (P : Program) (Q : APost) (a : AFr) (σ : ASt) : c13_20.wp P Q a σ = ACode.wp P (.seq c13_19 .ret) Q a σ := id rfl
@[go_sem] theorem c13_21_wp (P : Program) (Q : APost) (a : AFr) (σ : ASt) : c13_21.wp P Q a σ = ACode.wp P (.seq c13_18 c13_20) Q a σ := id rfl
@[go_sem] theorem c13_22_wp (P : Program) (Q : APost) (a : AFr) (σ : ASt) : c13_22.wp P Q a σ = ACode.wp P (.seq c13_6 c13_21) Q a σ := id rfl
@[go_sem] theorem c13_23_wp (P : Program) (Q : APost) (a : AFr) (σ : ASt) : c13_23.wp P Q a σ = ACode.wp P (.seq c13_5 c13_22) Q a σ := id rfl
@[go_sem] theorem c13_24_wp (P : Program) (Q : APost) (a : AFr) (σ : ASt) : c13_24.wp P Q a σ = ACode.wp P (.seq c13_0 c13_23) Q a σ := id rfl
def c13 : AFn := ⟨19, [.t 2], c13_24⟩
set_option maxRecDepth 100000 in
theorem c13_ok : compF Try.prog Try.f13 = some c13 := by kernel_rfl
theorem a13 {args : List AV} {σ : ASt} {R : AV → ASt → Prop} (hl : args.length ≤ 19) (h : c13_24.wp Try.prog (RetQ [.t 2] R) (init args) σ) : ACalls Try.prog 13 args σ R := acalls_of Try.func13 c13_ok hl h

/-! 20: tabular/tabularref10.GoodRect -/
def c20_0 : ACode := .ops [
    ⟨(some 1), none, .e (.box (.t 0)), []⟩,
    ⟨(some 2), none, .q (.mv (.v (.bool false))), []⟩]
def c20_1 : ACode := .ops [
    ⟨(some 3), none, .q (.fa 0 (.t 1)), []⟩,
    ⟨(some 4), none, .q (.ld none (.t 3)), []⟩,
    ⟨(some 5), none, .q (.bin .lss (.t 4) (.v (.int .i64 0))), []⟩,
    ⟨(some 6), none, .q (.mv (.t 5)), []⟩,
    ⟨(some 7), (some (6, false)), .q (.fa 1 (.t 1)), []⟩,
    ⟨(some 8), (some (6, false)), .q (.ld none (.t 7)), []⟩,
    ⟨(some 9), (some (6, false)), .q (.bin .lss (.t 8) (.v (.int .i64 0))), []⟩,
    ⟨(some 10), none, .q (.pick (.t 6) (.v (.bool true)) (.t 9)), []⟩,
    ⟨(some 11), none, .q (.mv (.t 10)), []⟩,
    ⟨(some 12), (some (11, false)), .q (.fa 2 (.t 1)), []⟩,
    ⟨(some 13), (some (11, false)), .q (.ld none (.t 12)), []⟩,
    ⟨(some 14), (some (11, false)), .q (.bin .lss (.t 13) (.v (.int .i64 1))), []⟩,
    ⟨(some 15), none, .q (.pick (.t 11) (.v (.bool true)) (.t 14)), []⟩,
    ⟨(some 16), none, .q (.mv (.t 15)), []⟩,
    ⟨(some 17), (some (16, false)), .q (.fa 3 (.t 1)), []⟩,
    ⟨(some 18), (some (16, false)), .q (.ld none (.t 17)), []⟩,
    ⟨(some 19), (some (16, false)), .q (.bin .lss (.t 18) (.v (.int .i64 1))), []⟩,
    ⟨(some 20), none, .q (.pick (.t 16) (.v (.bool true)) (.t 19)), []⟩,
    ⟨(some 21), none, .q (.mv (.t 20)), []⟩,
    ⟨(some 22), (some (21, false)), .q (.fa 0 (.t 1)), []⟩,
    ⟨(some 23), (some (21, false)), .q (.ld none (.t 22)), []⟩,
    ⟨(some 24), (some (21, false)), .q (.bin .gtr (.t 23) (.v (.int .i64 2999))), []⟩,
    ⟨(some 25), none, .q (.pick (.t 21) (.v (.bool true)) (.t 24)), []⟩,
    ⟨(some 26), none, .q (.mv (.t 25)), []⟩,
    ⟨(some 27), (some (26, false)), .q (.fa 1 (.t 1)), []⟩,
    ⟨(some 28), (some (26, false)), .q (.ld none (.t 27)), []⟩,
    ⟨(some 29), (some (26, false)), .q (.bin .gtr (.t 28) (.v (.int .i64 699))), []⟩,
    ⟨(some 30), none, .q (.pick (.t 26) (.v (.bool true)) (.t 29)), []⟩,
    ⟨(some 31), none, .q (.mv (.t 30)), []⟩,
    ⟨(some 32), (some (31, false)), .q (.fa 2 (.t 1)), []⟩,
    ⟨(some 33), (some (31, false)), .q (.ld none (.t 32)), []⟩,
    ⟨(some 34), (some (31, false)), .q (.bin .gtr (.t 33) (.v (.int .i64 3000))), []⟩,
    ⟨(some 35), none, .q (.pick (.t 31) (.v (.bool true)) (.t 34)), []⟩,
    ⟨(some 36), none, .q (.mv (.t 35)), []⟩,
    ⟨(some 37), (some (36, false)), .q (.fa 3 (.t 1)), []⟩,
    ⟨(some 38), (some (36, false)), .q (.ld none (.t 37)), []⟩,
    ⟨(some 39), (some (36, false)), .q (.bin .gtr (.t 38) (.v (.int .i64 700))), []⟩,
    ⟨(some 40), none, .q (.pick (.t 36) (.v (.bool true)) (.t 39)), []⟩]
def c20_2 : ACode := .ops [
    ⟨(some 2), none, .q (.mv (.v (.bool false))), []⟩]
def c20_3 : ACode := .seq c20_2 .ret
def c20_4 : ACode := .cond (.t 40) c20_3 .skip
def c20_5 : ACode := .seq c20_1 c20_4
def c20_6 : ACode := .ops [
    ⟨(some 41), none, .q (.fa 0 (.t 1)), []⟩,
    ⟨(some 42), none, .q (.ld none (.t 41)), []⟩,
    ⟨(some 43), none, .q (.fa 2 (.t 1)), []⟩,
    ⟨(some 44), none, .q (.ld none (.t 43)), []⟩,
    ⟨(some 45), none, .q (.bin .add (.t 42) (.t 44)), []⟩,
    ⟨(some 46), none, .q (.bin .leq (.t 45) (.v (.int .i64 3000))), []⟩,
    ⟨(some 47), none, .q (.mv (.t 46)), []⟩,
    ⟨(some 48), (some (47, true)), .q (.fa 1 (.t 1)), []⟩,
    ⟨(some 49), (some (47, true)), .q (.ld none (.t 48)), []⟩,
    ⟨(some 50), (some (47, true)), .q (.fa 3 (.t 1)), []⟩,
    ⟨(some 51), (some (47, true)), .q (.ld none (.t 50)), []⟩,
    ⟨(some 52), (some (47, true)), .q (.bin .add (.t 49) (.t 51)), []⟩,
    ⟨(some 53), (some (47, true)), .q (.bin .leq (.t 52) (.v (.int .i64 700))), []⟩,
    ⟨(some 54), none, .q (.pick (.t 47) (.t 53) (.v (.bool false))), []⟩,
    ⟨(some 2), none, .q (.mv (.t 54)), []⟩]
def c20_7 : ACode := .seq c20_6 .ret
def c20_8 : ACode := .seq c20_5 c20_7
def c20_9 : ACode := .seq c20_0 c20_8
@[go_sem] theorem c20_0_wp (P : Program) (Q : APost) (a : AFr) (σ : ASt) : c20_0.wp P Q a σ = ACode.wp P (.ops [
    ⟨(some 1), none, .e (.box (.t 0)), []⟩,
    ⟨(some 2), none, .q (.mv (.v (.bool false))), []⟩]) Q a σ := id rfl
@[go_sem] theorem c20_1_wp (P : Program) (Q : APost) (a : AFr) (σ : ASt) : c20_1.wp P Q a σ = ACode.wp P (.ops [
    ⟨(some 3), none, .q (.fa 0 (.t 1)), []⟩,
    ⟨(some 4), none, .q (.ld none (.t 3)), []⟩,
    ⟨(some 5), none, .q (.bin .lss (.t 4) (.v (.int .i64 0))), []⟩,
    ⟨(some 6), none, .q (.mv (.t 5)), []⟩,
    ⟨(some 7), (some (6, false)), .q (.fa 1 (.t 1)), []⟩,
    ⟨(some 8), (some (6, false)), .q (.ld none (.t 7)), []⟩,
    ⟨(some 9), (some (6, false)), .q (.bin .lss (.t 8) (.v (.int .i64 0))), []⟩,
    ⟨(some 10), none, .q (.pick (.t 6) (.v (.bool true)) (.t 9)), []⟩,
    ⟨(some 11), none, .q (.mv (.t 10)), []⟩,
    ⟨(some 12), (some (11, false)), .q (.fa 2 (.t 1)), []⟩,
    ⟨(some 13), (some (11, false)), .q (.ld none (.t 12)), []⟩,
    ⟨(some 14), (some (11, false)), .q (.bin .lss (.t 13) (.v (.int .i64 1))), []⟩,
    ⟨(some 15), none, .q (.pick (.t 11) (.v (.bool true)) (.t 14)), []⟩,
    ⟨(some 16), none, .q (.mv (.t 15)), []⟩,
    ⟨(some 17), (some (16, false)), .q (.fa 3 (.t 1)), []⟩,
    ⟨(some 18), (some (16, false)), .q (.ld none (.t 17)), []⟩,
    ⟨(some 19), (some (16, false)), .q (.bin .lss (.t 18) (.v (.int .i64 1))), []⟩,
    ⟨(some 20), none, .q (.pick (.t 16) (.v (.bool true)) (.t 19)), []⟩,
    ⟨(some 21), none, .q (.mv (.t 20)), []⟩,
    ⟨(some 22), (some (21, false)), .q (.fa 0 (.t 1)), []⟩,
    ⟨(some 23), (some (21, false)), .q (.ld none (.t 22)), []⟩,
    ⟨(some 24), (some (21, false)), .q (.bin .gtr (.t 23) (.v (.int .i64 2999))), []⟩,
    ⟨(some 25), none, .q (.pick (.t 21) (.v (.bool true)) (.t 24)), []⟩,
    ⟨(some 26), none, .q (.mv (.t 25)), []⟩,
    ⟨(some 27), (some (26, false)), .q (.fa 1 (.t 1)), []⟩,
    ⟨(some 28), (some (26, false)), .q (.ld none (.t 27)), []⟩,
    ⟨(some 29), (some (26, false)), .q (.bin .gtr (.t 28) (.v (.int .i64 699))), []⟩,
    ⟨(some 30), none, .q (.pick (.t 26) (.v (.bool true)) (.t 29)), []⟩,
    ⟨(some 31), none, .q (.mv (.t 30)), []⟩,
    ⟨(some 32), (some (31, false)), .q (.fa 2 (.t 1)), []⟩,
    ⟨(some 33), (some (31, false)), .q (.ld none (.t 32)), []⟩,
    ⟨(some 34), (some (31, false)), .q (.bin .gtr (.t 33) (.v (.int .i64 3000))), []⟩,
    ⟨(some 35), none, .q (.pick (.t 31) (.v (.bool true)) (.t 34)), []⟩,
    ⟨(some 36), none, .q (.mv (.t 35)), []⟩,
    ⟨(some 37), (some (36, false)), .q (.fa 3 (.t 1)), []⟩,
    ⟨(some 38), (some (36, false)), .q (.ld none (.t 37)), []⟩,
    ⟨(some 39), (some (36, false)), .q (.bin .gtr (.t 38) (.v (.int .i64 700))), []⟩,
    ⟨(some 40), none, .q (.pick (.t 36) (.v (.bool true)) (.t 39)), []⟩]) Q a σ := id rfl
@[go_sem] theorem c20_2_wp (P : Program) (Q : APost) (a : AFr) (σ : ASt) : c20_2.wp P Q a σ = ACode.wp P (.ops [
    ⟨(some 2), none, .q (.mv (.v (.bool false))), []⟩]) Q a σ := id rfl
@[go_sem] theorem c20_3_wp (P : Program) (Q : APost) (a : AFr) (σ : ASt) : c20_3.wp P Q a σ = ACode.wp P (.seq c20_2 .ret) Q a σ := id rfl
@[go_sem] theorem c20_4_wp (P : Program) (Q : APost) (a : AFr) (σ : ASt) : c20_4.wp P Q a σ = ACode.wp P (.cond (.t 40) c20_3 .skip) Q a σ := id rfl
@[go_sem] theorem c20_5_wp (P : Program) (Q : APost) (a : AFr) (σ : ASt) : c20_5.wp P Q a σ = ACode.wp P (.seq c20_1 c20_4) Q a σ := id rfl
@[go_sem] theorem c20_6_wp (P : Program) (Q : APost) (a : AFr) (σ : ASt) : c20_6.wp P Q a σ = ACode.wp P (.ops [
    ⟨(some 41), none, .q (.fa 0 (.t 1)), []⟩,
    ⟨(some 42), none, .q (.ld none (.t 41)), []⟩,
    ⟨(some 43), none, .q (.fa 2 (.t 1)), []⟩,
    ⟨(some 44), none, .q (.ld none (.t 43)), []⟩,
    ⟨(some 45), none, .q (.bin .add (.t 42) (.t 44)), []⟩,
    ⟨(some 46), none, .q (.bin .leq (.t 45) (.v (.int .i64 3000))), []⟩,
    ⟨(some 47), none, .q (.mv (.t 46)), []⟩,
    ⟨(some 48), (some (47, true)), .q (.fa 1 (.t 1)), []⟩,
    ⟨(some 49), (some (47, true)), .q (.ld none (.t 48)), []⟩,
    ⟨(some 50), (some (47, true)), .q (.fa 3 (.t 1)), []⟩,
    ⟨(some 51), (some (47, true)), .q (.ld none (.t 50)), []⟩,
    ⟨(some 52), (some (47, true)), .q (.bin .add (.t 49) (.t 51)), []⟩,
    ⟨(some 53), (some (47, true)), .q (.bin .leq (.t 52) (.v (.int .i64 700))), []⟩,
    ⟨(some 54), none, .q (.pick (.t 47) (.t 53) (.v (.bool false))), []⟩,
    ⟨(some 2), none, .q (.mv (.t 54)), []⟩]) Q a σ := id rfl
@[go_sem] theorem c20_7_wp (P : Program) (Q : APost) (a : AFr) (σ : ASt) : c20_7.wp P Q a σ = ACode.wp P (.seq c20_6 .ret) Q a σ := id rfl
@[go_sem] theorem c20_8_wp (P : Program) (Q : APost) (a : AFr) (σ : ASt) : c20_8.wp P Q a σ = ACode.wp P (.seq c20_5 c20_7) Q a σ := id rfl
@[go_sem] theorem c20_9_wp (P : Program) (Q : APost) (a : AFr) (σ : ASt) : c20_9.wp P Q a σ = ACode.wp P (.seq c20_0 c20_8) Q a σ := id rfl
def c20 : AFn := ⟨55, [.t 2], c20_9⟩
set_option maxRecDepth 100000 in
theorem c20_ok : compF Try.prog Try.f20 = some c20 := by kernel_rfl
theorem a20 {args : List AV} {σ : ASt} {R : AV → ASt → Prop} (hl : args.length ≤ 55) (h : c20_9.wp Try.prog (RetQ [.t 2] R) (init args) σ) : ACalls Try.prog 20 args σ R := acalls_of Try.func20 c20_ok hl h

/-! 21: (tabular/addr.Rect).Meet -/
def c21_0 : ACode := .ops [
    ⟨(some 2), none, .e (.box (.t 0)), []⟩,
    ⟨(some 3), none, .e (.box (.t 1)), []⟩,
    ⟨(some 4), none, .e (.alloc [(.int .i64 0), (.int .i64 0), (.int .i64 0), (.int .i64 0)]), []⟩,
    ⟨(some 5), none, .q (.mv (.v (.bool false))), []⟩]
def c21_1 : ACode := .ops [
    ⟨(some 10), none, .q (.fa 0 (.t 2)), []⟩,
    ⟨(some 11), none, .q (.ld none (.t 10)), []⟩,
    ⟨(some 12), none, .q (.fa 0 (.t 3)), []⟩,
    ⟨(some 13), none, .q (.ld none (.t 12)), []⟩,
    ⟨(some 14), none, .q (.mnx true (.t 11) (.t 13)), []⟩,
    ⟨(some 15), none, .q (.fa 1 (.t 2)), []⟩,
    ⟨(some 16), none, .q (.ld none (.t 15)), []⟩,
    ⟨(some 17), none, .q (.fa 1 (.t 3)), []⟩,
    ⟨(some 18), none, .q (.ld none (.t 17)), []⟩,
    ⟨(some 19), none, .q (.mnx true (.t 16) (.t 18)), []⟩,
    ⟨(some 6), none, .q (.mv (.t 14)), []⟩,
    ⟨(some 7), none, .q (.mv (.t 19)), []⟩]
def c21_2 : ACode := .ops [
    ⟨(some 20), none, .q (.fa 0 (.t 2)), []⟩,
    ⟨(some 21), none, .q (.ld none (.t 20)), []⟩,
    ⟨(some 22), none, .q (.fa 2 (.t 2)), []⟩,
    ⟨(some 23), none, .q (.ld none (.t 22)), []⟩,
    ⟨(some 24), none, .q (.bin .add (.t 21) (.t 23)), []⟩,
    ⟨(some 25), none, .q (.fa 0 (.t 3)), []⟩,
    ⟨(some 26), none, .q (.ld none (.t 25)), []⟩,
    ⟨(some 27), none, .q (.fa 2 (.t 3)), []⟩,
    ⟨(some 28), none, .q (.ld none (.t 27)), []⟩,
    ⟨(some 29), none, .q (.bin .add (.t 26) (.t 28)), []⟩,
    ⟨(some 30), none, .q (.mnx false (.t 24) (.t 29)), []⟩,
    ⟨(some 31), none, .q (.mv (.t 6)), []⟩,
    ⟨(some 32), none, .q (.bin .sub (.t 30) (.t 31)), []⟩,
    ⟨(some 33), none, .q (.fa 1 (.t 2)), []⟩,
    ⟨(some 34), none, .q (.ld none (.t 33)), []⟩,
    ⟨(some 35), none, .q (.fa 3 (.t 2)), []⟩,
    ⟨(some 36), none, .q (.ld none (.t 35)), []⟩,
    ⟨(some 37), none, .q (.bin .add (.t 34) (.t 36)), []⟩,
    ⟨(some 38), none, .q (.fa 1 (.t 3)), []⟩,
    ⟨(some 39), none, .q (.ld none (.t 38)), []⟩,
    ⟨(some 40), none, .q (.fa 3 (.t 3)), []⟩,
    ⟨(some 41), none, .q (.ld none (.t 40)), []⟩,
    ⟨(some 42), none, .q (.bin .add (.t 39) (.t 41)), []⟩,
    ⟨(some 43), none, .q (.mnx false (.t 37) (.t 42)), []⟩,
    ⟨(some 44), none, .q (.mv (.t 7)), []⟩,
    ⟨(some 45), none, .q (.bin .sub (.t 43) (.t 44)), []⟩,
    ⟨(some 8), none, .q (.mv (.t 32)), []⟩,
    ⟨(some 9), none, .q (.mv (.t 45)), []⟩]
def c21_3 : ACode := .ops [
    ⟨(some 46), none, .q (.mv (.t 8)), []⟩,
    ⟨(some 47), none, .q (.bin .lss (.t 46) (.v (.int .i64 1))), []⟩,
    ⟨(some 48), none, .q (.mv (.t 47)), []⟩,
    ⟨(some 49), (some (48, false)), .q (.mv (.t 9)), []⟩,
    ⟨(some 50), (some (48, false)), .q (.bin .lss (.t 49) (.v (.int .i64 1))), []⟩,
    ⟨(some 51), none, .q (.pick (.t 48) (.v (.bool true)) (.t 50)), []⟩]
def c21_4 : ACode := .ops [
    ⟨(some 52), none, .q (.build [(.int .i64 0), (.int .i64 0), (.int .i64 0), (.int .i64 0)] []), []⟩,
    ⟨none, none, .e (.store 4 (.t 4) (.t 52)), []⟩,
    ⟨(some 5), none, .q (.mv (.v (.bool false))), []⟩]
def c21_5 : ACode := .seq c21_4 .ret
def c21_6 : ACode := .cond (.t 51) c21_5 .skip
def c21_7 : ACode := .seq c21_3 c21_6
def c21_8 : ACode := .ops [
    ⟨(some 53), none, .q (.mv (.t 6)), []⟩,
    ⟨(some 54), none, .q (.mv (.t 7)), []⟩,
    ⟨(some 55), none, .q (.mv (.t 8)), []⟩,
    ⟨(some 56), none, .q (.mv (.t 9)), []⟩,
    ⟨(some 57), none, .q (.build [(.int .i64 0), (.int .i64 0), (.int .i64 0), (.int .i64 0)] [(0, 1, (.t 53)), (1, 1, (.t 54)), (2, 1, (.t 55)), (3, 1, (.t 56))]), []⟩,
    ⟨none, none, .e (.store 4 (.t 4) (.t 57)), []⟩,
    ⟨(some 5), none, .q (.mv (.v (.bool true))), []⟩]
def c21_9 : ACode := .seq c21_8 .ret
def c21_10 : ACode := .seq c21_7 c21_9
def c21_11 : ACode := .seq c21_2 c21_10
def c21_12 : ACode := .seq c21_1 c21_11
def c21_13 : ACode := .seq c21_0 c21_12
@[go_sem] theorem c21_0_wp (P : Program) (Q : APost) (a : AFr) (σ : ASt) : c21_0.wp P Q a σ = ACode.wp P (.ops [
    ⟨(some 2), none, .e (.box (.t 0)), []⟩,
    ⟨(some 3), none, .e (.box (.t 1)), []⟩,
    ⟨(some 4), none, .e (.alloc [(.int .i64 0), (.int .i64 0), (.int .i64 0), (.int .i64 0)]), []⟩,
    ⟨(some 5), none, .q (.mv (.v (.bool false))), []⟩]) Q a σ := id rfl
@[go_sem] theorem c21_1_wp (P : Program) (Q : APost) (a : AFr) (σ : ASt) : c21_1.wp P Q a σ = ACode.wp P (.ops [
    ⟨(some 10), none, .q (.fa 0 (.t 2)), []⟩,
    ⟨(some 11), none, .q (.ld none (.t 10)), []⟩,
    ⟨(some 12), none, .q (.fa 0 (.t 3)), []⟩,
    ⟨(some 13), none, .q (.ld none (.t 12)), []⟩,
    ⟨(some 14), none, .q (.mnx true (.t 11) (.t 13)), []⟩,
    ⟨(some 15), none, .q (.fa 1 (.t 2)), []⟩,
    ⟨(some 16), none, .q (.ld none (.t 15)), []⟩,
    ⟨(some 17), none, .q (.fa 1 (.t 3)), []⟩,
    ⟨(some 18), none, .q (.ld none (.t 17)), []⟩,
    ⟨(some 19), none, .q (.mnx true (.t 16) (.t 18)), []⟩,
    ⟨(some 6), none, .q (.mv (.t 14)), []⟩,
    ⟨(some 7), none, .q (.mv (.t 19)), []⟩]) Q a σ := id rfl
@[go_sem] theorem c21_2_wp (P : Program) (Q : APost) (a : AFr) (σ : ASt) : c21_2.wp P Q a σ = ACode.wp P (.ops [
    ⟨(some 20), none, .q (.fa 0 (.t 2)), []⟩,
    ⟨(some 21), none, .q (.ld none (.t 20)), []⟩,
    ⟨(some 22), none, .q (.fa 2 (.t 2)), []⟩,
    ⟨(some 23), none, .q (.ld none (.t 22)), []⟩,
    ⟨(some 24), none, .q (.bin .add (.t 21) (.t 23)), []⟩,
    ⟨(some 25), none, .q (.fa 0 (.t 3)), []⟩,
    ⟨(some 26), none, .q (.ld none (.t 25)), []⟩,
    ⟨(some 27), none, .q (.fa 2 (.t 3)), []⟩,
    ⟨(some 28), none, .q (.ld none (.t 27)), []⟩,
    ⟨(some 29), none, .q (.bin .add (.t 26) (.t 28)), []⟩,
    ⟨(some 30), none, .q (.mnx false (.t 24) (.t 29)), []⟩,
    ⟨(some 31), none, .q (.mv (.t 6)), []⟩,
    ⟨(some 32), none, .q (.bin .sub (.t 30) (.t 31)), []⟩,
    ⟨(some 33), none, .q (.fa 1 (.t 2)), []⟩,
    ⟨(some 34), none, .q (.ld none (.t 33)), []⟩,
    ⟨(some 35), none, .q (.fa 3 (.t 2)), []⟩,
    ⟨(some 36), none, .q (.ld none (.t 35)), []⟩,
    ⟨(some 37), none, .q (.bin .add (.t 34) (.t 36)), []⟩,
    ⟨(some 38), none, .q (.fa 1 (.t 3)), []⟩,
    ⟨(some 39), none, .q (.ld none (.t 38)), []⟩,
    ⟨(some 40), none, .q (.fa 3 (.t 3)), []⟩,
    ⟨(some 41), none, .q (.ld none (.t 40)), []⟩,
    ⟨(some 42), none, .q (.bin .add (.t 39) (.t 41)), []⟩,
    ⟨(some 43), none, .q (.mnx false (.t 37) (.t 42)), []⟩,
    ⟨(some 44), none, .q (.mv (.t 7)), []⟩,
    ⟨(some 45), none, .q (.bin .sub (.t 43) (.t 44)), []⟩,
    ⟨(some 8), none, .q (.mv (.t 32)), []⟩,
    ⟨(some 9), none, .q (.mv (.t 45)), []⟩]) Q a σ := id rfl
@[go_sem] theorem c21_3_wp (P : Program) (Q : APost) (a : AFr) (σ : ASt) : c21_3.wp P Q a σ = ACode.wp P (.ops [
    ⟨(some 46), none, .q (.mv (.t 8)), []⟩,
    ⟨(some 47), none, .q (.bin .lss (.t 46) (.v (.int .i64 1))), []⟩,
    ⟨(some 48), none, .q (.mv (.t 47)), []⟩,
    ⟨(some 49), (some (48, false)), .q (.mv (.t 9)), []⟩,
    ⟨(some 50), (some (48, false)), .q (.bin .lss (.t 49) (.v (.int .i64 1))), []⟩,
    ⟨(some 51), none, .q (.pick (.t 48) (.v (.bool true)) (.t 50)), []⟩]) Q a σ := id rfl
@[go_sem] theorem c21_4_wp (P : Program) (Q : APost) (a : AFr) (σ : ASt) : c21_4.wp P Q a σ = ACode.wp P (.ops [
    ⟨(some 52), none, .q (.build [(.int .i64 0), (.int .i64 0), (.int .i64 0), (.int .i64 0)] []), []⟩,
    ⟨none, none, .e (.store 4 (.t 4) (.t 52)), []⟩,
    ⟨(some 5), none, .q (.mv (.v (.bool false))), []⟩]) Q a σ := id rfl
@[go_sem] theorem c21_5_wp (P : Program) (Q : APost) (a : AFr) (σ : ASt) : c21_5.wp P Q a σ = ACode.wp P (.seq c21_4 .ret) Q a σ := id rfl
@[go_sem] theorem c21_6_wp (P : Program) (Q : APost) (a : AFr) (σ : ASt) : c21_6.wp P Q a σ = ACode.wp P (.cond (.t 51) c21_5 .skip) Q a σ := id rfl
@[go_sem] theorem c21_7_wp (P : Program) (Q : APost) (a : AFr) (σ : ASt) : c21_7.wp P Q a σ = ACode.wp P (.seq c21_3 c21_6) Q a σ := id rfl
@[go_sem] theorem c21_8_wp (P : Program) (Q : APost) (a : AFr) (σ : ASt) : c21_8.wp P Q a σ = ACode.wp P (.ops [
    ⟨(some 53), none, .q (.mv (.t 6)), []⟩,
    ⟨(some 54), none, .q (.mv (.t 7)), []⟩,
    ⟨(some 55), none, .q (.mv (.t 8)), []⟩,
    ⟨(some 56), none, .q (.mv (.t 9)), []⟩,
    ⟨(some 57), none, .q (.build [(.int .i64 0), (.int .i64 0), (.int .i64 0), (.int .i64 0)] [(0, 1, (.t 53)), (1, 1, (.t 54)), (2, 1, (.t 55)), (3, 1, (.t 56))]), []⟩,
    ⟨none, none, .e (.store 4 (.t 4) (.t 57)), []⟩,
    ⟨(some 5), none, .q (.mv (.v (.bool true))), []⟩]) Q a σ := id rfl
@[go_sem] theorem c21_9_wp (P : Program) (Q : APost) (a : AFr) (σ : ASt) : c21_9.wp P Q a σ = ACode.wp P (.seq c21_8 .ret) Q a σ := id rfl
@[go_sem] theorem c21_10_wp (P : Program) (Q : APost) (a : AFr) (σ : ASt) : c21_10.wp P Q a σ = ACode.wp P (.seq c21_7 c21_9) Q a σ := id rfl
@[go_sem] theorem c21_11_wp (P : Program) (Q : APost) (a : AFr) (σ : ASt) : c21_11.wp P Q a σ = ACode.wp P (.seq c21_2 c21_10) Q a σ := id rfl
@[go_sem] theorem c21_12_wp (P : Program) (Q : APost) (a : AFr) (σ : ASt) : c21_12.wp P Q a σ = ACode.wp P (.seq c21_1 c21_11) Q a σ := id rfl
@[go_sem] theorem c21_13_wp (P : Program) (Q : APost) (a : AFr) (σ : ASt) : c21_13.wp P Q a σ = ACode.wp P (.seq c21_0 c21_12) Q a σ := id rfl
def c21 : AFn := ⟨58, [.c 4 (some 4), .t 5], c21_13⟩
set_option maxRecDepth 100000 in
theorem c21_ok : compF Try.prog Try.f21 = some c21 := by kernel_rfl
theorem a21 {args : List AV} {σ : ASt} {R : AV → ASt → Prop} (hl : args.length ≤ 58) (h : c21_13.wp Try.prog (RetQ [.c 4 (some 4), .t 5] R) (init args) σ) : ACalls Try.prog 21 args σ R := acalls_of Try.func21 c21_ok hl h

/-! 22: (tabular/addr.Rect).Less -/
def c22_0 : ACode := .ops [
    ⟨(some 2), none, .e (.box (.t 0)), []⟩,
    ⟨(some 3), none, .e (.box (.t 1)), []⟩,
    ⟨(some 4), none, .q (.mv (.v (.sl .full []))), []⟩]
def c22_1 : ACode := .ops [
    ⟨(some 10), none, .q (.ld (some 4) (.t 2)), []⟩,
    ⟨(some 11), none, .q (.ld (some 4) (.t 3)), []⟩,
    ⟨(some 12), none, .e (.call 21 [(.t 10), (.t 11)]), []⟩,
    ⟨(some 9), none, .q (.mv (.t 12)), []⟩,
    ⟨(some 13), none, .q (.ext 0 (.t 9)), []⟩,
    ⟨(some 14), none, .q (.ext 1 (.t 9)), []⟩,
    ⟨(some 5), none, .e (.alloc [(.int .i64 0), (.int .i64 0), (.int .i64 0), (.int .i64 0)]), []⟩,
    ⟨none, none, .e (.store 4 (.t 5) (.t 13)), []⟩,
    ⟨(some 6), none, .q (.mv (.t 14)), []⟩]
def c22_2 : ACode := .ops [
    ⟨(some 15), none, .q (.mv (.t 6)), []⟩,
    ⟨(some 16), none, .q (.un .not (.t 15)), []⟩]
def c22_3 : ACode := .ops [
    ⟨(some 17), none, .q (.ld (some 4) (.t 2)), []⟩,
    ⟨(some 18), none, .q (.bsl 4 [(.t 17)]), []⟩,
    ⟨(some 4), none, .q (.mv (.t 18)), []⟩]
def c22_4 : ACode := .seq c22_3 .ret
def c22_5 : ACode := .cond (.t 16) c22_4 .skip
def c22_6 : ACode := .seq c22_2 c22_5
def c22_7 : ACode := .ops [
    ⟨(some 7), none, .e (.alloc [(.sl .full [])]), []⟩]
def c22_8 : ACode := .ops [
    ⟨(some 19), none, .q (.mkf (.func 30) [] [(.t 7)]), []⟩,
    ⟨(some 8), none, .q (.mv (.t 19)), []⟩]
def c22_9 : ACode := .ops [
    ⟨(some 20), none, .q (.mv (.t 8)), []⟩,
    ⟨(some 21), none, .q (.fa 0 (.t 2)), []⟩,
    ⟨(some 22), none, .q (.ld none (.t 21)), []⟩,
    ⟨(some 23), none, .q (.fa 1 (.t 2)), []⟩,
    ⟨(some 24), none, .q (.ld none (.t 23)), []⟩,
    ⟨(some 25), none, .q (.fa 0 (.t 5)), []⟩,
    ⟨(some 26), none, .q (.ld none (.t 25)), []⟩,
    ⟨(some 27), none, .q (.fa 0 (.t 2)), []⟩,
    ⟨(some 28), none, .q (.ld none (.t 27)), []⟩,
    ⟨(some 29), none, .q (.bin .sub (.t 26) (.t 28)), []⟩,
    ⟨(some 30), none, .q (.fa 3 (.t 2)), []⟩,
    ⟨(some 31), none, .q (.ld none (.t 30)), []⟩,
    ⟨(some 32), none, .q (.build [(.int .i64 0), (.int .i64 0), (.int .i64 0), (.int .i64 0)] [(0, 1, (.t 22)), (1, 1, (.t 24)), (2, 1, (.t 29)), (3, 1, (.t 31))]), []⟩,
    ⟨(some 33), none, .e (.callv (.t 20) [(.t 32)]), []⟩]
def c22_10 : ACode := .ops [
    ⟨(some 34), none, .q (.mv (.t 8)), []⟩,
    ⟨(some 35), none, .q (.fa 0 (.t 5)), []⟩,
    ⟨(some 36), none, .q (.ld none (.t 35)), []⟩,
    ⟨(some 37), none, .q (.fa 2 (.t 5)), []⟩,
    ⟨(some 38), none, .q (.ld none (.t 37)), []⟩,
    ⟨(some 39), none, .q (.bin .add (.t 36) (.t 38)), []⟩,
    ⟨(some 40), none, .q (.fa 1 (.t 2)), []⟩,
    ⟨(some 41), none, .q (.ld none (.t 40)), []⟩,
    ⟨(some 42), none, .q (.fa 0 (.t 2)), []⟩,
    ⟨(some 43), none, .q (.ld none (.t 42)), []⟩,
    ⟨(some 44), none, .q (.fa 2 (.t 2)), []⟩,
    ⟨(some 45), none, .q (.ld none (.t 44)), []⟩,
    ⟨(some 46), none, .q (.bin .add (.t 43) (.t 45)), []⟩,
    ⟨(some 47), none, .q (.fa 0 (.t 5)), []⟩,
    ⟨(some 48), none, .q (.ld none (.t 47)), []⟩,
    ⟨(some 49), none, .q (.bin .sub (.t 46) (.t 48)), []⟩,
    ⟨(some 50), none, .q (.fa 2 (.t 5)), []⟩,
    ⟨(some 51), none, .q (.ld none (.t 50)), []⟩,
    ⟨(some 52), none, .q (.bin .sub (.t 49) (.t 51)), []⟩,
    ⟨(some 53), none, .q (.fa 3 (.t 2)), []⟩,
    ⟨(some 54), none, .q (.ld none (.t 53)), []⟩,
    ⟨(some 55), none, .q (.build [(.int .i64 0), (.int .i64 0), (.int .i64 0), (.int .i64 0)] [(0, 1, (.t 39)), (1, 1, (.t 41)), (2, 1, (.t 52)), (3, 1, (.t 54))]), []⟩,
    ⟨(some 56), none, .e (.callv (.t 34) [(.t 55)]), []⟩]
def c22_11 : ACode := .ops [
    ⟨(some 57), none, .q (.mv (.t 8)), []⟩,
    ⟨(some 58), none, .q (.fa 0 (.t 5)), []⟩,
    ⟨(some 59), none, .q (.ld none (.t 58)), []⟩,
    ⟨(some 60), none, .q (.fa 1 (.t 2)), []⟩,
    ⟨(some 61), none, .q (.ld none (.t 60)), []⟩,
    ⟨(some 62), none, .q (.fa 2 (.t 5)), []⟩,
    ⟨(some 63), none, .q (.ld none (.t 62)), []⟩,
    ⟨(some 64), none, .q (.fa 1 (.t 5)), []⟩,
    ⟨(some 65), none, .q (.ld none (.t 64)), []⟩,
    ⟨(some 66), none, .q (.fa 1 (.t 2)), []⟩,
    ⟨(some 67), none, .q (.ld none (.t 66)), []⟩,
    ⟨(some 68), none, .q (.bin .sub (.t 65) (.t 67)), []⟩,
    ⟨(some 69), none, .q (.build [(.int .i64 0), (.int .i64 0), (.int .i64 0), (.int .i64 0)] [(0, 1, (.t 59)), (1, 1, (.t 61)), (2, 1, (.t 63)), (3, 1, (.t 68))]), []⟩,
    ⟨(some 70), none, .e (.callv (.t 57) [(.t 69)]), []⟩]
def c22_12 : ACode := .ops [
    ⟨(some 71), none, .q (.mv (.t 8)), []⟩,
    ⟨(some 72), none, .q (.fa 0 (.t 5)), []⟩,
    ⟨(some 73), none, .q (.ld none (.t 72)), []⟩,
    ⟨(some 74), none, .q (.fa 1 (.t 5)), []⟩,
    ⟨(some 75), none, .q (.ld none (.t 74)), []⟩,
    ⟨(some 76), none, .q (.fa 3 (.t 5)), []⟩,
    ⟨(some 77), none, .q (.ld none (.t 76)), []⟩,
    ⟨(some 78), none, .q (.bin .add (.t 75) (.t 77)), []⟩,
    ⟨(some 79), none, .q (.fa 2 (.t 5)), []⟩,
    ⟨(some 80), none, .q (.ld none (.t 79)), []⟩,
    ⟨(some 81), none, .q (.fa 1 (.t 2)), []⟩,
    ⟨(some 82), none, .q (.ld none (.t 81)), []⟩,
    ⟨(some 83), none, .q (.fa 3 (.t 2)), []⟩,
    ⟨(some 84), none, .q (.ld none (.t 83)), []⟩,
    ⟨(some 85), none, .q (.bin .add (.t 82) (.t 84)), []⟩,
    ⟨(some 86), none, .q (.fa 1 (.t 5)), []⟩,
    ⟨(some 87), none, .q (.ld none (.t 86)), []⟩,
    ⟨(some 88), none, .q (.bin .sub (.t 85) (.t 87)), []⟩,
    ⟨(some 89), none, .q (.fa 3 (.t 5)), []⟩,
    ⟨(some 90), none, .q (.ld none (.t 89)), []⟩,
    ⟨(some 91), none, .q (.bin .sub (.t 88) (.t 90)), []⟩,
    ⟨(some 92), none, .q (.build [(.int .i64 0), (.int .i64 0), (.int .i64 0), (.int .i64 0)] [(0, 1, (.t 73)), (1, 1, (.t 78)), (2, 1, (.t 80)), (3, 1, (.t 91))]), []⟩,
    ⟨(some 93), none, .e (.callv (.t 71) [(.t 92)]), []⟩]
def c22_13 : ACode := .ops [
    ⟨(some 94), none, .q (.ld none (.t 7)), []⟩,
    ⟨(some 4), none, .q (.mv (.t 94)), []⟩]
def c22_14 : ACode := .seq c22_13 .ret
def c22_15 : ACode := .seq c22_12 c22_14
def c22_16 : ACode := .seq c22_11 c22_15
def c22_17 : ACode := .seq c22_10 c22_16
def c22_18 : ACode := .seq c22_9 c22_17
def c22_19 : ACode := .seq c22_8 c22_18
def c22_20 : ACode := .seq c22_7 c22_19
def c22_21 : ACode := .seq c22_6 c22_20
def c22_22 : ACode := .seq c22_1 c22_21
def c22_23 : ACode := .seq c22_0 c22_22
@[go_sem] theorem c22_0_wp (P : Program) (Q : APost) (a : AFr) (σ : ASt) : c22_0.wp P Q a σ = ACode.wp P (.ops [
    ⟨(some 2), none, .e (.box (.t 0)), []⟩,
    ⟨(some 3), none, .e (.box (.t 1)), []⟩,
    ⟨(some 4), none, .q (.mv (.v (.sl .full []))), []⟩]) Q a σ := id rfl
@[go_sem] theorem c22_1_wp (P : Program) (Q : APost) (a : AFr) (σ : ASt) : c22_1.wp P Q a σ = ACode.wp P (.ops [
    ⟨(some 10), none, .q (.ld (some 4) (.t 2)), []⟩,
    ⟨(some 11), none, .q (.ld (some 4) (.t 3)), []⟩,
    ⟨(some 12), none, .e (.call 21 [(.t 10), (.t 11)]), []⟩,
    ⟨(some 9), none, .q (.mv (.t 12)), []⟩,
    ⟨(some 13), none, .q (.ext 0 (.t 9)), []⟩,
    ⟨(some 14), none, .q (.ext 1 (.t 9)), []⟩,
    ⟨(some 5), none, .e (.alloc [(.int .i64 0), (.int .i64 0), (.int .i64 0), (.int .i64 0)]), []⟩,
    ⟨none, none, .e (.store 4 (.t 5) (.t 13)), []⟩,
    ⟨(some 6), none, .q (.mv (.t 14)), []⟩]) Q a σ := id rfl
@[go_sem] theorem c22_2_wp (P : Program) (Q : APost) (a : AFr) (σ : ASt) : c22_2.wp P Q a σ = ACode.wp P (.ops [
    ⟨(some 15), none, .q (.mv (.t 6)), []⟩,
    ⟨(some 16), none, .q (.un .not (.t 15)), []⟩]) Q a σ := id rfl
@[go_sem] theorem c22_3_wp (P : Program) (Q : APost) (a : AFr) (σ : ASt) : c22_3.wp P Q a σ = ACode.wp P (.ops [
    ⟨(some 17), none, .q (.ld (some 4) (.t 2)), []⟩,
    ⟨(some 18), none, .q (.bsl 4 [(.t 17)]), []⟩,
    ⟨(some 4), none, .q (.mv (.t 18)), []⟩]) Q a σ := id rfl
@[go_sem] theorem c22_4_wp (P : Program) (Q : APost) (a : AFr) (σ : ASt) : c22_4.wp P Q a σ = ACode.wp P (.seq c22_3 .ret) Q a σ := id rfl
@[go_sem] theorem c22_5_wp (P : Program) (Q : APost) (a : AFr) (σ : ASt) : c22_5.wp P Q a σ = ACode.wp P (.cond (.t 16) c22_4 .skip) Q a σ := id rfl
@[go_sem] theorem c22_6_wp (P : Program) (Q : APost) (a : AFr) (σ : ASt) : c22_6.wp P Q a σ = ACode.wp P (.seq c22_2 c22_5) Q a σ := id rfl
@[go_sem] theorem c22_7_wp (P : Program) (Q : APost) (a : AFr) (σ : ASt) : c22_7.wp P Q a σ = ACode.wp P (.ops [
    ⟨(some 7), none, .e (.alloc [(.sl .full [])]), []⟩]) Q a σ := id rfl
@[go_sem] theorem c22_8_wp (P : Program) (Q : APost) (a : AFr) (σ : ASt) : c22_8.wp P Q a σ = ACode.wp P (.ops [
    ⟨(some 19), none, .q (.mkf (.func 30) [] [(.t 7)]), []⟩,
    ⟨(some 8), none, .q (.mv (.t 19)), []⟩]) Q a σ := id rfl
@[go_sem] theorem c22_9_wp (P : Program) (Q : APost) (a : AFr) (σ : ASt) : c22_9.wp P Q a σ = ACode.wp P (.ops [
    ⟨(some 20), none, .q (.mv (.t 8)), []⟩,
    ⟨(some 21), none, .q (.fa 0 (.t 2)), []⟩,
    ⟨(some 22), none, .q (.ld none (.t 21)), []⟩,
    ⟨(some 23), none, .q (.fa 1 (.t 2)), []⟩,
    ⟨(some 24), none, .q (.ld none (.t 23)), []⟩,
    ⟨(some 25), none, .q (.fa 0 (.t 5)), []⟩,
    ⟨(some 26), none, .q (.ld none (.t 25)), []⟩,
    ⟨(some 27), none, .q (.fa 0 (.t 2)), []⟩,
    ⟨(some 28), none, .q (.ld none (.t 27)), []⟩,
    ⟨(some 29), none, .q (.bin .sub (.t 26) (.t 28)), []⟩,
    ⟨(some 30), none, .q (.fa 3 (.t 2)), []⟩,
    ⟨(some 31), none, .q (.ld none (.t 30)), []⟩,
    ⟨(some 32), none, .q (.build [(.int .i64 0), (.int .i64 0), (.int .i64 0), (.int .i64 0)] [(0, 1, (.t 22)), (1, 1, (.t 24)), (2, 1, (.t 29)), (3, 1, (.t 31))]), []⟩,
    ⟨(some 33), none, .e (.callv (.t 20) [(.t 32)]), []⟩]) Q a σ := id rfl
@[go_sem] theorem c22_10_wp (P : Program) (Q : APost) (a : AFr) (σ : ASt) : c22_10.wp P Q a σ = ACode.wp P (.ops [
    ⟨(some 34), none, .q (.mv (.t 8)), []⟩,
    ⟨(some 35), none, .q (.fa 0 (.t 5)), []⟩,
    ⟨(some 36), none, .q (.ld none (.t 35)), []⟩,
    ⟨(some 37), none, .q (.fa 2 (.t 5)), []⟩,
    ⟨(some 38), none, .q (.ld none (.t 37)), []⟩,
    ⟨(some 39), none, .q (.bin .add (.t 36) (.t 38)), []⟩,
    ⟨(some 40), none, .q (.fa 1 (.t 2)), []⟩,
    ⟨(some 41), none, .q (.ld none (.t 40)), []⟩,
    ⟨(some 42), none, .q (.fa 0 (.t 2)), []⟩,
    ⟨(some 43), none, .q (.ld none (.t 42)), []⟩,
    ⟨(some 44), none, .q (.fa 2 (.t 2)), []⟩,
    ⟨(some 45), none, .q (.ld none (.t 44)), []⟩,
    ⟨(some 46), none, .q (.bin .add (.t 43) (.t 45)), []⟩,
    ⟨(some 47), none, .q (.fa 0 (.t 5)), []⟩,
    ⟨(some 48), none, .q (.ld none (.t 47)), []⟩,
    ⟨(some 49), none, .q (.bin .sub (.t 46) (.t 48)), []⟩,
    ⟨(some 50), none, .q (.fa 2 (.t 5)), []⟩,
    ⟨(some 51), none, .q (.ld none (.t 50)), []⟩,
    ⟨(some 52), none, .q (.bin .sub (.t 49) (.t 51)), []⟩,
    ⟨(some 53), none, .q (.fa 3 (.t 2)), []⟩,
    ⟨(some 54), none, .q (.ld none (.t 53)), []⟩,
    ⟨(some 55), none, .q (.build [(.int .i64 0), (.int .i64 0), (.int .i64 0), (.int .i64 0)] [(0, 1, (.t 39)), (1, 1, (.t 41)), (2, 1, (.t 52)), (3, 1, (.t 54))]), []⟩,
    ⟨(some 56), none, .e (.callv (.t 34) [(.t 55)]), []⟩]) Q a σ := id rfl
@[go_sem] theorem c22_11_wp (P : Program) (Q : APost) (a : AFr) (σ : ASt) : c22_11.wp P Q a σ = ACode.wp P (.ops [
    ⟨(some 57), none, .q (.mv (.t 8)), []⟩,
    ⟨(some 58), none, .q (.fa 0 (.t 5)), []⟩,
    ⟨(some 59), none, .q (.ld none (.t 58)), []⟩,
    ⟨(some 60), none, .q (.fa 1 (.t 2)), []⟩,
    ⟨(some 61), none, .q (.ld none (.t 60)), []⟩,
    ⟨(some 62), none, .q (.fa 2 (.t 5)), []⟩,
    ⟨(some 63), none, .q (.ld none (.t 62)), []⟩,
    ⟨(some 64), none, .q (.fa 1 (.t 5)), []⟩,
    ⟨(some 65), none, .q (.ld none (.t 64)), []⟩,
    ⟨(some 66), none, .q (.fa 1 (.t 2)), []⟩,
    ⟨(some 67), none, .q (.ld none (.t 66)), []⟩,
    ⟨(some 68), none, .q (.bin .sub (.t 65) (.t 67)), []⟩,
    ⟨(some 69), none, .q (.build [(.int .i64 0), (.int .i64 0), (.int .i64 0), (.int .i64 0)] [(0, 1, (.t 59)), (1, 1, (.t 61)), (2, 1, (.t 63)), (3, 1, (.t 68))]), []⟩,
    ⟨(some 70), none, .e (.callv (.t 57) [(.t 69)]), []⟩]) Q a σ := id rfl
@[go_sem] theorem c22_12_wp (P : Program) (Q : APost) (a : AFr) (σ : ASt) : c22_12.wp P Q a σ = ACode.wp P (.ops [
    ⟨(some 71), none, .q (.mv (.t 8)), []⟩,
    ⟨(some 72), none, .q (.fa 0 (.t 5)), []⟩,
    ⟨(some 73), none, .q (.ld none (.t 72)), []⟩,
    ⟨(some 74), none, .q (.fa 1 (.t 5)), []⟩,
    ⟨(some 75), none, .q (.ld none (.t 74)), []⟩,
    ⟨(some 76), none, .q (.fa 3 (.t 5)), []⟩,
    ⟨(some 77), none, .q (.ld none (.t 76)), []⟩,
    ⟨(some 78), none, .q (.bin .add (.t 75) (.t 77)), []⟩,
    ⟨(some 79), none, .q (.fa 2 (.t 5)), []⟩,
    ⟨(some 80), none, .q (.ld none (.t 79)), []⟩,
    ⟨(some 81), none, .q (.fa 1 (.t 2)), []⟩,
    ⟨(some 82), none, .q (.ld none (.t 81)), []⟩,
    ⟨(some 83), none, .q (.fa 3 (.t 2)), []⟩,
    ⟨(some 84), none, .q (.ld none (.t 83)), []⟩,
    ⟨(some 85), none, .q (.bin .add (.t 82) (.t 84)), []⟩,
    ⟨(some 86), none, .q (.fa 1 (.t 5)), []⟩,
    ⟨(some 87), none, .q (.ld none (.t 86)), []⟩,
    ⟨(some 88), none, .q (.bin .sub (.t 85) (.t 87)), []⟩,
    ⟨(some 89), none, .q (.fa 3 (.t 5)), []⟩,
    ⟨(some 90), none, .q (.ld none (.t 89)), []⟩,
    ⟨(some 91), none, .q (.bin .sub (.t 88) (.t 90)), []⟩,
    ⟨(some 92), none, .q (.build [(.int .i64 0), (.int .i64 0), (.int .i64 0), (.int .i64 0)] [(0, 1, (.t 73)), (1, 1, (.t 78)), (2, 1, (.t 80)), (3, 1, (.t 91))]), []⟩,
    ⟨(some 93), none, .e (.callv (.t 71) [(.t 92)]), []⟩]) Q a σ := id rfl
@[go_sem] theorem c22_13_wp (P : Program) (Q : APost) (a : AFr) (σ : ASt) : c22_13.wp P Q a σ = ACode.wp P (.ops [
    ⟨(some 94), none, .q (.ld none (.t 7)), []⟩,
    ⟨(some 4), none, .q (.mv (.t 94)), []⟩]) Q a σ := id rfl
@[go_sem] theorem c22_14_wp (P : Program) (Q : APost) (a : AFr) (σ : ASt) : c22_14.wp P Q a σ = ACode.wp P (.seq c22_13 .ret) Q a σ := id rfl
@[go_sem] theorem c22_15_wp (P : Program) (Q : APost) (a : AFr) (σ : ASt) : c22_15.wp P Q a σ = ACode.wp P (.seq c22_12 c22_14) Q a σ := id rfl
@[go_sem] theorem c22_16_wp (P : Program) (Q : APost) (a : AFr) (σ : ASt) : c22_16.wp P Q a σ = ACode.wp P (.seq c22_11 c22_15) Q a σ := id rfl
@[go_sem] theorem c22_17_wp (P : Program) (Q : APost) (a : AFr) (σ : ASt) : c22_17.wp P Q a σ = ACode.wp P (.seq c22_10 c22_16) Q a σ := id rfl
@[go_sem] theorem c22_18_wp (P : Program) (Q : APost) (a : AFr) (σ : ASt) : c22_18.wp P Q a σ = ACode.wp P (.seq c22_9 c22_17) Q a σ := id rfl
@[go_sem] theorem c22_19_wp (P : Program) (Q : APost) (a : AFr) (σ : ASt) : c22_19.wp P Q a σ = ACode.wp P (.seq c22_8 c22_18) Q a σ := id rfl
@[go_sem] theorem c22_20_wp (P : Program) (Q : APost) (a : AFr) (σ : ASt) : c22_20.wp P Q a σ = ACode.wp P (.seq c22_7 c22_19) Q a σ := id rfl
@[go_sem] theorem c22_21_wp (P : Program) (Q : APost) (a : AFr) (σ : ASt) : c22_21.wp P Q a σ = ACode.wp P (.seq c22_6 c22_20) Q a σ := id rfl
@[go_sem] theorem c22_22_wp (P : Program) (Q : APost) (a : AFr) (σ : ASt) : c22_22.wp P Q a σ = ACode.wp P (.seq c22_1 c22_21) Q a σ := id rfl
@[go_sem] theorem c22_23_wp (P : Program) (Q : APost) (a : AFr) (σ : ASt) : c22_23.wp P Q a σ = ACode.wp P (.seq c22_0 c22_22) Q a σ := id rfl
def c22 : AFn := ⟨95, [.t 4], c22_23⟩
set_option maxRecDepth 100000 in
theorem c22_ok : compF Try.prog Try.f22 = some c22 := by kernel_rfl
theorem a22 {args : List AV} {σ : ASt} {R : AV → ASt → Prop} (hl : args.length ≤ 95) (h : c22_23.wp Try.prog (RetQ [.t 4] R) (init args) σ) : ACalls Try.prog 22 args σ R := acalls_of Try.func22 c22_ok hl h

/-! 23: (tabular/addr.Rect).Cells -/
def c23_0 : ACode := .ops [
    ⟨(some 1), none, .e (.box (.t 0)), []⟩,
    ⟨(some 2), none, .q (.mv (.v (.int .i64 0))), []⟩]
def c23_1 : ACode := .ops [
    ⟨(some 3), none, .q (.fa 2 (.t 1)), []⟩,
    ⟨(some 4), none, .q (.ld none (.t 3)), []⟩,
    ⟨(some 5), none, .q (.fa 3 (.t 1)), []⟩,
    ⟨(some 6), none, .q (.ld none (.t 5)), []⟩,
    ⟨(some 7), none, .q (.bin .mul (.t 4) (.t 6)), []⟩,
    ⟨(some 2), none, .q (.mv (.t 7)), []⟩]
def c23_2 : ACode := .seq c23_1 .ret
def c23_3 : ACode := .seq c23_0 c23_2
@[go_sem] theorem c23_0_wp (P : Program) (Q : APost) (a : AFr) (σ : ASt) : c23_0.wp P Q a σ = ACode.wp P (.ops [
    ⟨(some 1), none, .e (.box (.t 0)), []⟩,
    ⟨(some 2), none, .q (.mv (.v (.int .i64 0))), []⟩]) Q a σ := id rfl
@[go_sem] theorem c23_1_wp (P : Program) (Q : APost) (a : AFr) (σ : ASt) : c23_1.wp P Q a σ = ACode.wp P (.ops [
    ⟨(some 3), none, .q (.fa 2 (.t 1)), []⟩,
    ⟨(some 4), none, .q (.ld none (.t 3)), []⟩,
    ⟨(some 5), none, .q (.fa 3 (.t 1)), []⟩,
    ⟨(some 6), none, .q (.ld none (.t 5)), []⟩,
    ⟨(some 7), none, .q (.bin .mul (.t 4) (.t 6)), []⟩,
    ⟨(some 2), none, .q (.mv (.t 7)), []⟩]) Q a σ := id rfl
@[go_sem] theorem c23_2_wp (P : Program) (Q : APost) (a : AFr) (σ : ASt) : c23_2.wp P Q a σ = ACode.wp P (.seq c23_1 .ret) Q a σ := id rfl
@[go_sem] theorem c23_3_wp (P : Program) (Q : APost) (a : AFr) (σ : ASt) : c23_3.wp P Q a σ = ACode.wp P (.seq c23_0 c23_2) Q a σ := id rfl
def c23 : AFn := ⟨8, [.t 2], c23_3⟩
set_option maxRecDepth 100000 in
theorem c23_ok : compF Try.prog Try.f23 = some c23 := by kernel_rfl
theorem a23 {args : List AV} {σ : ASt} {R : AV → ASt → Prop} (hl : args.length ≤ 8) (h : c23_3.wp Try.prog (RetQ [.t 2] R) (init args) σ) : ACalls Try.prog 23 args σ R := acalls_of Try.func23 c23_ok hl h

/-! 24: tabular/tabularref10.Has -/
def c24_0 : ACode := .ops [
    ⟨(some 3), none, .e (.box (.t 0)), []⟩,
    ⟨(some 6), none, .q (.mv (.v (.bool false))), []⟩]
def c24_1 : ACode := .ops [
    ⟨(some 7), none, .q (.fa 0 (.t 3)), []⟩,
    ⟨(some 8), none, .q (.ld none (.t 7)), []⟩,
    ⟨(some 9), none, .q (.mv (.t 1)), []⟩,
    ⟨(some 10), none, .q (.bin .leq (.t 8) (.t 9)), []⟩,
    ⟨(some 11), none, .q (.mv (.t 10)), []⟩,
    ⟨(some 12), (some (11, true)), .q (.mv (.t 1)), []⟩,
    ⟨(some 13), (some (11, true)), .q (.fa 0 (.t 3)), []⟩,
    ⟨(some 14), (some (11, true)), .q (.ld none (.t 13)), []⟩,
    ⟨(some 15), (some (11, true)), .q (.fa 2 (.t 3)), []⟩,
    ⟨(some 16), (some (11, true)), .q (.ld none (.t 15)), []⟩,
    ⟨(some 17), (some (11, true)), .q (.bin .add (.t 14) (.t 16)), []⟩,
    ⟨(some 18), (some (11, true)), .q (.bin .lss (.t 12) (.t 17)), []⟩,
    ⟨(some 19), none, .q (.pick (.t 11) (.t 18) (.v (.bool false))), []⟩,
    ⟨(some 20), none, .q (.mv (.t 19)), []⟩,
    ⟨(some 21), (some (20, true)), .q (.fa 1 (.t 3)), []⟩,
    ⟨(some 22), (some (20, true)), .q (.ld none (.t 21)), []⟩,
    ⟨(some 23), (some (20, true)), .q (.mv (.t 2)), []⟩,
    ⟨(some 24), (some (20, true)), .q (.bin .leq (.t 22) (.t 23)), []⟩,
    ⟨(some 25), none, .q (.pick (.t 20) (.t 24) (.v (.bool false))), []⟩,
    ⟨(some 26), none, .q (.mv (.t 25)), []⟩,
    ⟨(some 27), (some (26, true)), .q (.mv (.t 2)), []⟩,
    ⟨(some 28), (some (26, true)), .q (.fa 1 (.t 3)), []⟩,
    ⟨(some 29), (some (26, true)), .q (.ld none (.t 28)), []⟩,
    ⟨(some 30), (some (26, true)), .q (.fa 3 (.t 3)), []⟩,
    ⟨(some 31), (some (26, true)), .q (.ld none (.t 30)), []⟩,
    ⟨(some 32), (some (26, true)), .q (.bin .add (.t 29) (.t 31)), []⟩,
    ⟨(some 33), (some (26, true)), .q (.bin .lss (.t 27) (.t 32)), []⟩,
    ⟨(some 34), none, .q (.pick (.t 26) (.t 33) (.v (.bool false))), []⟩,
    ⟨(some 6), none, .q (.mv (.t 34)), []⟩]
def c24_2 : ACode := .seq c24_1 .ret
def c24_3 : ACode := .seq c24_0 c24_2
@[go_sem] theorem c24_0_wp (P : Program) (Q : APost) (a : AFr) (σ : ASt) : c24_0.wp P Q a σ = ACode.wp P (.ops [
    ⟨(some 3), none, .e (.box (.t 0)), []⟩,
    ⟨(some 6), none, .q (.mv (.v (.bool false))), []⟩]) Q a σ := id rfl
@[go_sem] theorem c24_1_wp (P : Program) (Q : APost) (a : AFr) (σ : ASt) : c24_1.wp P Q a σ = ACode.wp P (.ops [
    ⟨(some 7), none, .q (.fa 0 (.t 3)), []⟩,
    ⟨(some 8), none, .q (.ld none (.t 7)), []⟩,
    ⟨(some 9), none, .q (.mv (.t 1)), []⟩,
    ⟨(some 10), none, .q (.bin .leq (.t 8) (.t 9)), []⟩,
    ⟨(some 11), none, .q (.mv (.t 10)), []⟩,
    ⟨(some 12), (some (11, true)), .q (.mv (.t 1)), []⟩,
    ⟨(some 13), (some (11, true)), .q (.fa 0 (.t 3)), []⟩,
    ⟨(some 14), (some (11, true)), .q (.ld none (.t 13)), []⟩,
    ⟨(some 15), (some (11, true)), .q (.fa 2 (.t 3)), []⟩,
    ⟨(some 16), (some (11, true)), .q (.ld none (.t 15)), []⟩,
    ⟨(some 17), (some (11, true)), .q (.bin .add (.t 14) (.t 16)), []⟩,
    ⟨(some 18), (some (11, true)), .q (.bin .lss (.t 12) (.t 17)), []⟩,
    ⟨(some 19), none, .q (.pick (.t 11) (.t 18) (.v (.bool false))), []⟩,
    ⟨(some 20), none, .q (.mv (.t 19)), []⟩,
    ⟨(some 21), (some (20, true)), .q (.fa 1 (.t 3)), []⟩,
    ⟨(some 22), (some (20, true)), .q (.ld none (.t 21)), []⟩,
    ⟨(some 23), (some (20, true)), .q (.mv (.t 2)), []⟩,
    ⟨(some 24), (some (20, true)), .q (.bin .leq (.t 22) (.t 23)), []⟩,
    ⟨(some 25), none, .q (.pick (.t 20) (.t 24) (.v (.bool false))), []⟩,
    ⟨(some 26), none, .q (.mv (.t 25)), []⟩,
    ⟨(some 27), (some (26, true)), .q (.mv (.t 2)), []⟩,
    ⟨(some 28), (some (26, true)), .q (.fa 1 (.t 3)), []⟩,
    ⟨(some 29), (some (26, true)), .q (.ld none (.t 28)), []⟩,
    ⟨(some 30), (some (26, true)), .q (.fa 3 (.t 3)), []⟩,
    ⟨(some 31), (some (26, true)), .q (.ld none (.t 30)), []⟩,
    ⟨(some 32), (some (26, true)), .q (.bin .add (.t 29) (.t 31)), []⟩,
    ⟨(some 33), (some (26, true)), .q (.bin .lss (.t 27) (.t 32)), []⟩,
    ⟨(some 34), none, .q (.pick (.t 26) (.t 33) (.v (.bool false))), []⟩,
    ⟨(some 6), none, .q (.mv (.t 34)), []⟩]) Q a σ := id rfl
@[go_sem] theorem c24_2_wp (P : Program) (Q : APost) (a : AFr) (σ : ASt) : c24_2.wp P Q a σ = ACode.wp P (.seq c24_1 .ret) Q a σ := id rfl
@[go_sem] theorem c24_3_wp (P : Program) (Q : APost) (a : AFr) (σ : ASt) : c24_3.wp P Q a σ = ACode.wp P (.seq c24_0 c24_2) Q a σ := id rfl
def c24 : AFn := ⟨35, [.t 6], c24_3⟩
set_option maxRecDepth 100000 in
theorem c24_ok : compF Try.prog Try.f24 = some c24 := by kernel_rfl
theorem a24 {args : List AV} {σ : ASt} {R : AV → ASt → Prop} (hl : args.length ≤ 35) (h : c24_3.wp Try.prog (RetQ [.t 6] R) (init args) σ) : ACalls Try.prog 24 args σ R := acalls_of Try.func24 c24_ok hl h

/-! 26: tabular/tabularref10.Great -/
def c26_0 : ACode := .ops [
    ⟨(some 2), none, .q (.mv (.v (.str []))), []⟩]
def c26_1 : ACode := .ops [
    ⟨(some 5), none, .q (.mv (.t 0)), []⟩,
    ⟨(some 6), none, .e (.s2b (.t 5)), []⟩,
    ⟨(some 3), none, .q (.mv (.t 6)), []⟩]
def c26_2 : ACode := .ops [
    ⟨(some 7), none, .q (.mv (.t 3)), []⟩,
    ⟨(some 8), none, .q (.len (.t 7)), []⟩,
    ⟨(some 9), none, .q (.mv (.v (.int .i64 0))), []⟩]
def c26_3 : ACode := .ops [
    ⟨(some 10), none, .q (.bin .lss (.t 9) (.t 8)), []⟩]
def c26_4 : ACode := .cond (.t 10) .skip (.exit 0)
def c26_5 : ACode := .ops [
    ⟨(some 11), none, .q (.mv (.t 9)), []⟩,
    ⟨(some 4), none, .q (.mv (.t 11)), []⟩]
def c26_6 : ACode := .ops [
    ⟨(some 12), none, .q (.mv (.t 3)), []⟩,
    ⟨(some 13), none, .q (.mv (.t 4)), []⟩,
    ⟨(some 14), none, .q (.ia 1 (.t 12) (.t 13)), []⟩,
    ⟨(some 15), none, .q (.ld none (.t 14)), []⟩,
    ⟨(some 16), none, .q (.bin .geq (.t 15) (.v (.int .u8 97))), []⟩,
    ⟨(some 17), none, .q (.mv (.t 16)), []⟩,
    ⟨(some 18), (some (17, true)), .q (.mv (.t 3)), []⟩,
    ⟨(some 19), (some (17, true)), .q (.mv (.t 4)), []⟩,
    ⟨(some 20), (some (17, true)), .q (.ia 1 (.t 18) (.t 19)), []⟩,
    ⟨(some 21), (some (17, true)), .q (.ld none (.t 20)), []⟩,
    ⟨(some 22), (some (17, true)), .q (.bin .leq (.t 21) (.v (.int .u8 122))), []⟩,
    ⟨(some 23), none, .q (.pick (.t 17) (.t 22) (.v (.bool false))), []⟩]
def c26_7 : ACode := .ops [
    ⟨(some 24), none, .q (.mv (.t 3)), []⟩,
    ⟨(some 25), none, .q (.mv (.t 4)), []⟩,
    ⟨(some 26), none, .q (.ia 1 (.t 24) (.t 25)), []⟩,
    ⟨(some 27), none, .q (.ld none (.t 26)), []⟩,
    ⟨(some 28), none, .q (.bin .sub (.t 27) (.v (.int .u8 32))), []⟩,
    ⟨(some 29), none, .q (.ia 1 (.t 24) (.t 25)), []⟩,
    ⟨none, none, .e (.store 1 (.t 29) (.t 28)), []⟩]
def c26_8 : ACode := .cond (.t 23) c26_7 .skip
def c26_9 : ACode := .seq c26_6 c26_8
def c26_10 : ACode := .seq c26_5 c26_9
def c26_11 : ACode := .block 1 c26_10
def c26_12 : ACode := .ops [
    ⟨(some 30), none, .q (.bin .add (.t 9) (.v (.int .i64 1))), []⟩,
    ⟨(some 9), none, .q (.mv (.t 30)), []⟩]
def c26_13 : ACode := .seq c26_11 c26_12
def c26_14 : ACode := .seq c26_4 c26_13
def c26_15 : ACode := .seq c26_3 c26_14
def c26_16 : ACode := .loop c26_15
def c26_17 : ACode := .block 0 c26_16
def c26_18 : ACode := .seq c26_2 c26_17
def c26_19 : ACode := .ops [
    ⟨(some 31), none, .q (.mv (.t 3)), []⟩,
    ⟨(some 32), none, .q (.b2s (.t 31)), []⟩,
    ⟨(some 2), none, .q (.mv (.t 32)), []⟩]
def c26_20 : ACode := .seq c26_19 .ret
def c26_21 : ACode := .seq c26_18 c26_20
def c26_22 : ACode := .seq c26_1 c26_21
def c26_23 : ACode := .seq c26_0 c26_22
@[go_sem] theorem c26_0_wp (P : Program) (Q : APost) (a : AFr) (σ : ASt) : c26_0.wp P Q a σ = ACode.wp P (.ops [
    ⟨(some 2), none, .q (.mv (.v (.str []))), []⟩]) Q a σ := id rfl
@[go_sem] theorem c26_1_wp (P : Program) (Q : APost) (a : AFr) (σ : ASt) : c26_1.wp P Q a σ = ACode.wp P (.ops [
    ⟨(some 5), none, .q (.mv (.t 0)), []⟩,
    ⟨(some 6), none, .e (.s2b (.t 5)), []⟩,
    ⟨(some 3), none, .q (.mv (.t 6)), []⟩]) Q a σ := id rfl
@[go_sem] theorem c26_2_wp (P : Program) (Q : APost) (a : AFr) (σ : ASt) : c26_2.wp P Q a σ = ACode.wp P (.ops [
    ⟨(some 7), none, .q (.mv (.t 3)), []⟩,
    ⟨(some 8), none, .q (.len (.t 7)), []⟩,
    ⟨(some 9), none, .q (.mv (.v (.int .i64 0))), []⟩]) Q a σ := id rfl
@[go_sem] theorem c26_3_wp (P : Program) (Q : APost) (a : AFr) (σ : ASt) : c26_3.wp P Q a σ = ACode.wp P (.ops [
    ⟨(some 10), none, .q (.bin .lss (.t 9) (.t 8)), []⟩]) Q a σ := id rfl
@[go_sem] theorem c26_4_wp (P : Program) (Q : APost) (a : AFr) (σ : ASt) : c26_4.wp P Q a σ = ACode.wp P (.cond (.t 10) .skip (.exit 0)) Q a σ := id rfl
@[go_sem] theorem c26_5_wp (P : Program) (Q : APost) (a : AFr) (σ : ASt) : c26_5.wp P Q a σ = ACode.wp P (.ops [
    ⟨(some 11), none, .q (.mv (.t 9)), []⟩,
    ⟨(some 4), none, .q (.mv (.t 11)), []⟩]) Q a σ := id rfl
@[go_sem] theorem c26_6_wp (P : Program) (Q : APost) (a : AFr) (σ : ASt) : c26_6.wp P Q a σ = ACode.wp P (.ops [
    ⟨(some 12), none, .q (.mv (.t 3)), []⟩,
    ⟨(some 13), none, .q (.mv (.t 4)), []⟩,
    ⟨(some 14), none, .q (.ia 1 (.t 12) (.t 13)), []⟩,
    ⟨(some 15), none, .q (.ld none (.t 14)), []⟩,
    ⟨(some 16), none, .q (.bin .geq (.t 15) (.v (.int .u8 97))), []⟩,
    ⟨(some 17), none, .q (.mv (.t 16)), []⟩,
    ⟨(some 18), (some (17, true)), .q (.mv (.t 3)), []⟩,
    ⟨(some 19), (some (17, true)), .q (.mv (.t 4)), []⟩,
    ⟨(some 20), (some (17, true)), .q (.ia 1 (.t 18) (.t 19)), []⟩,
    ⟨(some 21), (some (17, true)), .q (.ld none (.t 20)), []⟩,
    ⟨(some 22), (some (17, true)), .q (.bin .leq (.t 21) (.v (.int .u8 122))), []⟩,
    ⟨(some 23), none, .q (.pick (.t 17) (.t 22) (.v (.bool false))), []⟩]) Q a σ := id rfl
@[go_sem] theorem c26_7_wp (P : Program) (Q : APost) (a : AFr) (σ : ASt) : c26_7.wp P Q a σ = ACode.wp P (.ops [
    ⟨(some 24), none, .q (.mv (.t 3)), []⟩,
    ⟨(some 25), none, .q (.mv (.t 4)), []⟩,
    ⟨(some 26), none, .q (.ia 1 (.t 24) (.t 25)), []⟩,
    ⟨(some 27), none, .q (.ld none (.t 26)), []⟩,
    ⟨(some 28), none, .q (.bin .sub (.t 27) (.v (.int .u8 32))), []⟩,
    ⟨(some 29), none, .q (.ia 1 (.t 24) (.t 25)), []⟩,
    ⟨none, none, .e (.store 1 (.t 29) (.t 28)), []⟩]) Q a σ := id rfl
@[go_sem] theorem c26_8_wp (P : Program) (Q : APost) (a : AFr) (σ : ASt) : c26_8.wp P Q a σ = ACode.wp P (.cond (.t 23) c26_7 .skip) Q a σ := id rfl
@[go_sem] theorem c26_9_wp (P : Program) (Q : APost) (a : AFr) (σ : ASt) : c26_9.wp P Q a σ = ACode.wp P (.seq c26_6 c26_8) Q a σ := id rfl
@[go_sem] theorem c26_10_wp (P : Program) (Q : APost) (a : AFr) (σ : ASt) : c26_10.wp P Q a σ = ACode.wp P (.seq c26_5 c26_9) Q a σ := id rfl
@[go_sem] theorem c26_11_wp (P : Program) (Q : APost) (a : AFr) (σ : ASt) : c26_11.wp P Q a σ = ACode.wp P (.block 1 c26_10) Q a σ := id rfl
@[go_sem] theorem c26_12_wp (P : Program) (Q : APost) (a : AFr) (σ : ASt) : c26_12.wp P Q a σ = ACode.wp P (.ops [
    ⟨(some 30), none, .q (.bin .add (.t 9) (.v (.int .i64 1))), []⟩,
    ⟨(some 9), none, .q (.mv (.t 30)), []⟩]) Q a σ := id rfl
@[go_sem] theorem c26_13_wp (P : Program) (Q : APost) (a : AFr) (σ : ASt) : c26_13.wp P Q a σ = ACode.wp P (.seq c26_11 c26_12) Q a σ := id rfl
@[go_sem] theorem c26_14_wp (P : Program) (Q : APost) (a : AFr) (σ : ASt) : c26_14.wp P Q a σ = ACode.wp P (.seq c26_4 c26_13) Q a σ := id rfl
@[go_sem] theorem c26_15_wp (P : Program) (Q : APost) (a : AFr) (σ : ASt) : c26_15.wp P Q a σ = ACode.wp P (.seq c26_3 c26_14) Q a σ := id rfl
@[go_sem] theorem c26_16_wp (P : Program) (Q : APost) (a : AFr) (σ : ASt) : c26_16.wp P Q a σ = ACode.wp P (.loop c26_15) Q a σ := id rfl
@[go_sem] theorem c26_17_wp (P : Program) (Q : APost) (a : AFr) (σ : ASt) : c26_17.wp P Q a σ = ACode.wp P (.block 0 c26_16) Q a σ := id rfl
@[go_sem] theorem c26_18_wp (P : Program) (Q : APost) (a : AFr) (σ : ASt) : c26_18.wp P Q a σ = ACode.wp P (.seq c26_2 c26_17) Q a σ := id rfl
@[go_sem] theorem c26_19_wp (P : Program) (Q : APost) (a : AFr) (σ : ASt) : c26_19.wp P Q a σ = ACode.wp P (.ops [
    ⟨(some 31), none, .q (.mv (.t 3)), []⟩,
    ⟨(some 32), none, .q (.b2s (.t 31)), []⟩,
    ⟨(some 2), none, .q (.mv (.t 32)), []⟩]) Q a σ := id rfl
@[go_sem] theorem c26_20_wp (P : Program) (Q : APost) (a : AFr) (σ : ASt) : c26_20.wp P Q a σ = ACode.wp P (.seq c26_19 .ret) Q a σ := id rfl
@[go_sem] theorem c26_21_wp (P : Program) (Q : APost) (a : AFr) (σ : ASt) : c26_21.wp P Q a σ = ACode.wp P (.seq c26_18 c26_20) Q a σ := id rfl
@[go_sem] theorem c26_22_wp (P : Program) (Q : APost) (a : AFr) (σ : ASt) : c26_22.wp P Q a σ = ACode.wp P (.seq c26_1 c26_21) Q a σ := id rfl
@[go_sem] theorem c26_23_wp (P : Program) (Q : APost) (a : AFr) (σ : ASt) : c26_23.wp P Q a σ = ACode.wp P (.seq c26_0 c26_22) Q a σ := id rfl
def c26 : AFn := ⟨33, [.t 2], c26_23⟩
set_option maxRecDepth 100000 in
theorem c26_ok : compF Try.prog Try.f26 = some c26 := by kernel_rfl
theorem a26 {args : List AV} {σ : ASt} {R : AV → ASt → Prop} (hl : args.length ≤ 33) (h : c26_23.wp Try.prog (RetQ [.t 2] R) (init args) σ) : ACalls Try.prog 26 args σ R := acalls_of Try.func26 c26_ok hl h

/-! 27: tabular/tabularref10.Next -/
def c27_0 : ACode := .ops [
    ⟨(some 2), none, .q (.mv (.v (.str []))), []⟩]
def c27_1 : ACode := .ops [
    ⟨(some 5), none, .q (.mv (.t 0)), []⟩,
    ⟨(some 6), none, .e (.s2b (.t 5)), []⟩,
    ⟨(some 3), none, .q (.mv (.t 6)), []⟩]
def c27_2 : ACode := .ops [
    ⟨(some 7), none, .q (.mv (.t 3)), []⟩,
    ⟨(some 8), none, .q (.len (.t 7)), []⟩,
    ⟨(some 9), none, .q (.bin .sub (.t 8) (.v (.int .i64 1))), []⟩,
    ⟨(some 4), none, .q (.mv (.t 9)), []⟩]
def c27_3 : ACode := .ops [
    ⟨(some 10), none, .q (.mv (.t 4)), []⟩,
    ⟨(some 11), none, .q (.bin .geq (.t 10) (.v (.int .i64 0))), []⟩]
def c27_4 : ACode := .cond (.t 11) .skip (.exit 0)
def c27_5 : ACode := .seq c27_3 c27_4
def c27_6 : ACode := .ops [
    ⟨(some 14), none, .q (.mv (.t 3)), []⟩,
    ⟨(some 15), none, .q (.mv (.t 4)), []⟩,
    ⟨(some 16), none, .q (.ia 1 (.t 14) (.t 15)), []⟩,
    ⟨(some 17), none, .q (.ld none (.t 16)), []⟩,
    ⟨(some 18), none, .q (.bin .lss (.t 17) (.v (.int .u8 90))), []⟩]
def c27_7 : ACode := .ops [
    ⟨(some 19), none, .q (.mv (.t 3)), []⟩,
    ⟨(some 20), none, .q (.mv (.t 4)), []⟩,
    ⟨(some 21), none, .q (.ia 1 (.t 19) (.t 20)), []⟩,
    ⟨(some 22), none, .q (.ld none (.t 21)), []⟩,
    ⟨(some 23), none, .q (.bin .add (.t 22) (.v (.int .u8 1))), []⟩,
    ⟨(some 24), none, .q (.ia 1 (.t 19) (.t 20)), []⟩,
    ⟨none, none, .e (.store 1 (.t 24) (.t 23)), []⟩]
def c27_8 : ACode := .ops [
    ⟨(some 25), none, .q (.mv (.t 3)), []⟩,
    ⟨(some 26), none, .q (.b2s (.t 25)), []⟩,
    ⟨(some 2), none, .q (.mv (.t 26)), []⟩]
def c27_9 : ACode := .seq c27_8 .ret
def c27_10 : ACode := .seq c27_7 c27_9
def c27_11 : ACode := .cond (.t 18) c27_10 .skip
def c27_12 : ACode := .seq c27_6 c27_11
def c27_13 : ACode := .ops [
    ⟨(some 27), none, .q (.mv (.t 3)), []⟩,
    ⟨(some 28), none, .q (.mv (.t 4)), []⟩,
    ⟨(some 29), none, .q (.ia 1 (.t 27) (.t 28)), []⟩,
    ⟨none, none, .e (.store 1 (.t 29) (.v (.int .u8 65))), []⟩]
def c27_14 : ACode := .seq c27_12 c27_13
def c27_15 : ACode := .block 1 c27_14
def c27_16 : ACode := .ops [
    ⟨(some 12), none, .q (.mv (.t 4)), []⟩,
    ⟨(some 13), none, .q (.bin .sub (.t 12) (.v (.int .i64 1))), []⟩,
    ⟨(some 4), none, .q (.mv (.t 13)), []⟩]
def c27_17 : ACode := .seq c27_15 c27_16
def c27_18 : ACode := .seq c27_5 c27_17
def c27_19 : ACode := .loop c27_18
def c27_20 : ACode := .block 0 c27_19
def c27_21 : ACode := .seq c27_2 c27_20
def c27_22 : ACode := .ops [
    ⟨(some 30), none, .q (.mv (.t 3)), []⟩,
    ⟨(some 31), none, .q (.b2s (.t 30)), []⟩,
    ⟨(some 32), none, .q (.bin .add (.v (.str [65])) (.t 31)), []⟩,
    ⟨(some 2), none, .q (.mv (.t 32)), []⟩]
def c27_23 : ACode := .seq c27_22 .ret
def c27_24 : ACode := .seq c27_21 c27_23
def c27_25 : ACode := .seq c27_1 c27_24
def c27_26 : ACode := .seq c27_0 c27_25
@[go_sem] theorem c27_0_wp (P : Program) (Q : APost) (a : AFr) (σ : ASt) : c27_0.wp P Q a σ = ACode.wp P (.ops [
    ⟨(some 2), none, .q (.mv (.v (.str []))), []⟩]) Q a σ := id rfl
@[go_sem] theorem c27_1_wp (P : Program) (Q : APost) (a : AFr) (σ : ASt) : c27_1.wp P Q a σ = ACode.wp P (.ops [
    ⟨(some 5), none, .q (.mv (.t 0)), []⟩,
    ⟨(some 6), none, .e (.s2b (.t 5)), []⟩,
    ⟨(some 3), none, .q (.mv (.t 6)), []⟩]) Q a σ := id rfl
@[go_sem] theorem c27_2_wp (P : Program) (Q : APost) (a : AFr) (σ : ASt) : c27_2.wp P Q a σ = ACode.wp P (.ops [
    ⟨(some 7), none, .q (.mv (.t 3)), []⟩,
    ⟨(some 8), none, .q (.len (.t 7)), []⟩,
    ⟨(some 9), none, .q (.bin .sub (.t 8) (.v (.int .i64 1))), []⟩,
    ⟨(some 4), none, .q (.mv (.t 9)), []⟩]) Q a σ := id rfl
@[go_sem] theorem c27_3_wp (P : Program) (Q : APost) (a : AFr) (σ : ASt) : c27_3.wp P Q a σ = ACode.wp P (.ops [
    ⟨(some 10), none, .q (.mv (.t 4)), []⟩,
    ⟨(some 11), none, .q (.bin .geq (.t 10) (.v (.int .i64 0))), []⟩]) Q a σ := id rfl
@[go_sem] theorem c27_4_wp (P : Program) (Q : APost) (a : AFr) (σ : ASt) : c27_4.wp P Q a σ = ACode.wp P (.cond (.t 11) .skip (.exit 0)) Q a σ := id rfl
@[go_sem] theorem c27_5_wp (P : Program) (Q : APost) (a : AFr) (σ : ASt) : c27_5.wp P Q a σ = ACode.wp P (.seq c27_3 c27_4) Q a σ := id rfl
@[go_sem] theorem c27_6_wp (P : Program) (Q : APost) (a : AFr) (σ : ASt) : c27_6.wp P Q a σ = ACode.wp P (.ops [
    ⟨(some 14), none, .q (.mv (.t 3)), []⟩,
    ⟨(some 15), none, .q (.mv (.t 4)), []⟩,
    ⟨(some 16), none, .q (.ia 1 (.t 14) (.t 15)), []⟩,
    ⟨(some 17), none, .q (.ld none (.t 16)), []⟩,
    ⟨(some 18), none, .q (.bin .lss (.t 17) (.v (.int .u8 90))), []⟩]) Q a σ := id rfl
@[go_sem] theorem c27_7_wp (P : Program) (Q : APost) (a : AFr) (σ : ASt) : c27_7.wp P Q a σ = ACode.wp P (.ops [
    ⟨(some 19), none, .q (.mv (.t 3)), []⟩,
    ⟨(some 20), none, .q (.mv (.t 4)), []⟩,
    ⟨(some 21), none, .q (.ia 1 (.t 19) (.t 20)), []⟩,
    ⟨(some 22), none, .q (.ld none (.t 21)), []⟩,
    ⟨(some 23), none, .q (.bin .add (.t 22) (.v (.int .u8 1))), []⟩,
    ⟨(some 24), none, .q (.ia 1 (.t 19) (.t 20)), []⟩,
    ⟨none, none, .e (.store 1 (.t 24) (.t 23)), []⟩]) Q a σ := id rfl
@[go_sem] theorem c27_8_wp (P : Program) (Q : APost) (a : AFr) (σ : ASt) : c27_8.wp P Q a σ = ACode.wp P (.ops [
    ⟨(some 25), none, .q (.mv (.t 3)), []⟩,
    ⟨(some 26), none, .q (.b2s (.t 25)), []⟩,
    ⟨(some 2), none, .q (.mv (.t 26)), []⟩]) Q a σ := id rfl
@[go_sem] theorem c27_9_wp (P : Program) (Q : APost) (a : AFr) (σ : ASt) : c27_9.wp P Q a σ = ACode.wp P (.seq c27_8 .ret) Q a σ := id rfl
@[go_sem] theorem c27_10_wp (P : Program) (Q : APost) (a : AFr) (σ : ASt) : c27_10.wp P Q a σ = ACode.wp P (.seq c27_7 c27_9) Q a σ := id rfl
@[go_sem] theorem c27_11_wp (P : Program) (Q : APost) (a : AFr) (σ : ASt) : c27_11.wp P Q a σ = ACode.wp P (.cond (.t 18) c27_10 .skip) Q a σ := id rfl
@[go_sem] theorem c27_12_wp (P : Program) (Q : APost) (a : AFr) (σ : ASt) : c27_12.wp P Q a σ = ACode.wp P (.seq c27_6 c27_11) Q a σ := id rfl
@[go_sem] theorem c27_13_wp (P : Program) (Q : APost) (a : AFr) (σ : ASt) : c27_13.wp P Q a σ = ACode.wp P (.ops [
    ⟨(some 27), none, .q (.mv (.t 3)), []⟩,
    ⟨(some 28), none, .q (.mv (.t 4)), []⟩,
    ⟨(some 29), none, .q (.ia 1 (.t 27) (.t 28)), []⟩,
    ⟨none, none, .e (.store 1 (.t 29) (.v (.int .u8 65))), []⟩]) Q a σ := id rfl
@[go_sem] theorem c27_14_wp (P : Program) (Q : APost) (a : AFr) (σ : ASt) : c27_14.wp P Q a σ = ACode.wp P (.seq c27_12 c27_13) Q a σ := id rfl
@[go_sem] theorem c27_15_wp (P : Program) (Q : APost) (a : AFr) (σ : ASt) : c27_15.wp P Q a σ = ACode.wp P (.block 1 c27_14) Q a σ := id rfl
@[go_sem] theorem c27_16_wp (P : Program) (Q : APost) (a : AFr) (σ : ASt) : c27_16.wp P Q a σ = ACode.wp P (.ops [
    ⟨(some 12), none, .q (.mv (.t 4)), []⟩,
    ⟨(some 13), none, .q (.bin .sub (.t 12) (.v (.int .i64 1))), []⟩,
    ⟨(some 4), none, .q (.mv (.t 13)), []⟩]) Q a σ := id rfl
@[go_sem] theorem c27_17_wp (P : Program) (Q : APost) (a : AFr) (σ : ASt) : c27_17.wp P Q a σ = ACode.wp P (.seq c27_15 c27_16) Q a σ := id rfl
@[go_sem] theorem c27_18_wp (P : Program) (Q : APost) (a : AFr) (σ : ASt) : c27_18.wp P Q a σ = ACode.wp P (.seq c27_5 c27_17) Q a σ := id rfl
@[go_sem] theorem c27_19_wp (P : Program) (Q : APost) (a : AFr) (σ : ASt) : c27_19.wp P Q a σ = ACode.wp P (.loop c27_18) Q a σ := id rfl
@[go_sem] theorem c27_20_wp (P : Program) (Q : APost) (a : AFr) (σ : ASt) : c27_20.wp P Q a σ = ACode.wp P (.block 0 c27_19) Q a σ := id rfl
@[go_sem] theorem c27_21_wp (P : Program) (Q : APost) (a : AFr) (σ : ASt) : c27_21.wp P Q a σ = ACode.wp P (.seq c27_2 c27_20) Q a σ := id rfl
@[go_sem] theorem c27_22_wp (P : Program) (Q : APost) (a : AFr) (σ : ASt) : c27_22.wp P Q a σ = ACode.wp P (.ops [
    ⟨(some 30), none, .q (.mv (.t 3)), []⟩,
    ⟨(some 31), none, .q (.b2s (.t 30)), []⟩,
    ⟨(some 32), none, .q (.bin .add (.v (.str [65])) (.t 31)), []⟩,
    ⟨(some 2), none, .q (.mv (.t 32)), []⟩]) Q a σ := id rfl
@[go_sem] theorem c27_23_wp (P : Program) (Q : APost) (a : AFr) (σ : ASt) : c27_23.wp P Q a σ = ACode.wp P (.seq c27_22 .ret) Q a σ := id rfl
@[go_sem] theorem c27_24_wp (P : Program) (Q : APost) (a : AFr) (σ : ASt) : c27_24.wp P Q a σ = ACode.wp P (.seq c27_21 c27_23) Q a σ := id rfl
@[go_sem] theorem c27_25_wp (P : Program) (Q : APost) (a : AFr) (σ : ASt) : c27_25.wp P Q a σ = ACode.wp P (.seq c27_1 c27_24) Q a σ := id rfl
@[go_sem] theorem c27_26_wp (P : Program) (Q : APost) (a : AFr) (σ : ASt) : c27_26.wp P Q a σ = ACode.wp P (.seq c27_0 c27_25) Q a σ := id rfl
def c27 : AFn := ⟨33, [.t 2], c27_26⟩
set_option maxRecDepth 100000 in
theorem c27_ok : compF Try.prog Try.f27 = some c27 := by kernel_rfl
theorem a27 {args : List AV} {σ : ASt} {R : AV → ASt → Prop} (hl : args.length ≤ 33) (h : c27_26.wp Try.prog (RetQ [.t 2] R) (init args) σ) : ACalls Try.prog 27 args σ R := acalls_of Try.func27 c27_ok hl h

/-! 30: (tabular/addr.Rect).Less$1 -/
def c30_0 : ACode := .ops [
    ⟨(some 2), none, .e (.box (.t 0)), []⟩]
def c30_1 : ACode := .ops [
    ⟨(some 3), none, .q (.fa 2 (.t 2)), []⟩,
    ⟨(some 4), none, .q (.ld none (.t 3)), []⟩,
    ⟨(some 5), none, .q (.bin .gtr (.t 4) (.v (.int .i64 0))), []⟩,
    ⟨(some 6), none, .q (.mv (.t 5)), []⟩,
    ⟨(some 7), (some (6, true)), .q (.fa 3 (.t 2)), []⟩,
    ⟨(some 8), (some (6, true)), .q (.ld none (.t 7)), []⟩,
    ⟨(some 9), (some (6, true)), .q (.bin .gtr (.t 8) (.v (.int .i64 0))), []⟩,
    ⟨(some 10), none, .q (.pick (.t 6) (.t 9) (.v (.bool false))), []⟩]
def c30_2 : ACode := .ops [
    ⟨(some 11), none, .q (.ld none (.t 1)), []⟩,
    ⟨(some 12), none, .q (.ld (some 4) (.t 2)), []⟩,
    ⟨(some 13), none, .q (.bsl 4 [(.t 12)]), []⟩,
    ⟨(some 14), none, .e (.app 4 32 [(.int .i64 0), (.int .i64 0), (.int .i64 0), (.int .i64 0)] (.t 11) (.t 13)), []⟩,
    ⟨none, none, .e (.store 1 (.t 1) (.t 14)), []⟩]
def c30_3 : ACode := .cond (.t 10) c30_2 .skip
def c30_4 : ACode := .seq c30_1 c30_3
def c30_5 : ACode := .seq c30_0 c30_4
@[go_sem] theorem c30_0_wp (P : Program) (Q : APost) (a : AFr) (σ : ASt) : c30_0.wp P Q a σ = ACode.wp P (.ops [
    ⟨(some 2), none, .e (.box (.t 0)), []⟩]) Q a σ := id rfl
@[go_sem] theorem c30_1_wp (P : Program) (Q : APost) (a : AFr) (σ : ASt) : c30_1.wp P Q a σ = ACode.wp P (.ops [
    ⟨(some 3), none, .q (.fa 2 (.t 2)), []⟩,
    ⟨(some 4), none, .q (.ld none (.t 3)), []⟩,
    ⟨(some 5), none, .q (.bin .gtr (.t 4) (.v (.int .i64 0))), []⟩,
    ⟨(some 6), none, .q (.mv (.t 5)), []⟩,
    ⟨(some 7), (some (6, true)), .q (.fa 3 (.t 2)), []⟩,
    ⟨(some 8), (some (6, true)), .q (.ld none (.t 7)), []⟩,
    ⟨(some 9), (some (6, true)), .q (.bin .gtr (.t 8) (.v (.int .i64 0))), []⟩,
    ⟨(some 10), none, .q (.pick (.t 6) (.t 9) (.v (.bool false))), []⟩]) Q a σ := id rfl
@[go_sem] theorem c30_2_wp (P : Program) (Q : APost) (a : AFr) (σ : ASt) : c30_2.wp P Q a σ = ACode.wp P (.ops [
    ⟨(some 11), none, .q (.ld none (.t 1)), []⟩,
    ⟨(some 12), none, .q (.ld (some 4) (.t 2)), []⟩,
    ⟨(some 13), none, .q (.bsl 4 [(.t 12)]), []⟩,
    ⟨(some 14), none, .e (.app 4 32 [(.int .i64 0), (.int .i64 0), (.int .i64 0), (.int .i64 0)] (.t 11) (.t 13)), []⟩,
    ⟨none, none, .e (.store 1 (.t 1) (.t 14)), []⟩]) Q a σ := id rfl
@[go_sem] theorem c30_3_wp (P : Program) (Q : APost) (a : AFr) (σ : ASt) : c30_3.wp P Q a σ = ACode.wp P (.cond (.t 10) c30_2 .skip) Q a σ := id rfl
@[go_sem] theorem c30_4_wp (P : Program) (Q : APost) (a : AFr) (σ : ASt) : c30_4.wp P Q a σ = ACode.wp P (.seq c30_1 c30_3) Q a σ := id rfl
@[go_sem] theorem c30_5_wp (P : Program) (Q : APost) (a : AFr) (σ : ASt) : c30_5.wp P Q a σ = ACode.wp P (.seq c30_0 c30_4) Q a σ := id rfl
def c30 : AFn := ⟨15, [], c30_5⟩
set_option maxRecDepth 100000 in
theorem c30_ok : compF Try.prog Try.f30 = some c30 := by kernel_rfl
theorem a30 {args : List AV} {σ : ASt} {R : AV → ASt → Prop} (hl : args.length ≤ 15) (h : c30_5.wp Try.prog (RetQ [] R) (init args) σ) : ACalls Try.prog 30 args σ R := acalls_of Try.func30 c30_ok hl h

end Go.A
