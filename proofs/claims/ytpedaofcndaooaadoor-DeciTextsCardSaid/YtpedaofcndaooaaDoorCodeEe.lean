/- The functions, compiled: by program (wip/gencode.py). -/
import Derived.Test.YtpedaofcndaooaaDoorBk
import Derived.Test.YtpedaofcndaooaaDoorProg
import Derived.KernelRfl
namespace Go.A
open Go.Proofs

/-! 22: tabular/tabularlaw01.same -/
def c22_0 : ACode := .ops [
    ⟨(some 8), none, .q (.mv (.v (.bool false))), []⟩]
def c22_1 : ACode := .ops [
    ⟨(some 9), none, .q (.mv (.t 1)), []⟩,
    ⟨(some 10), none, .q (.mv (.t 3)), []⟩,
    ⟨(some 11), none, .q (.eq .b false (.t 9) (.t 10)), []⟩,
    ⟨(some 12), none, .q (.mv (.t 11)), []⟩,
    ⟨(some 13), (some (12, true)), .q (.mv (.t 0)), []⟩,
    ⟨(some 14), (some (12, true)), .q (.mv (.t 2)), []⟩,
    ⟨(some 15), (some (12, true)), .q (.bin .eql (.t 13) (.t 14)), []⟩,
    ⟨(some 16), none, .q (.pick (.t 12) (.t 15) (.v (.bool false))), []⟩,
    ⟨(some 8), none, .q (.mv (.t 16)), []⟩]
def c22_2 : ACode := .seq c22_1 .ret
def c22_3 : ACode := .seq c22_0 c22_2
@[go_sem] theorem c22_0_wp (P : Program) (Q : APost) (a : AFr) (σ : ASt) : c22_0.wp P Q a σ = ACode.wp P (.ops [
    ⟨(some 8), none, .q (.mv (.v (.bool false))), []⟩]) Q a σ := id rfl
@[go_sem] theorem c22_1_wp (P : Program) (Q : APost) (a : AFr) (σ : ASt) : c22_1.wp P Q a σ = ACode.wp P (.ops [
    ⟨(some 9), none, .q (.mv (.t 1)), []⟩,
    ⟨(some 10), none, .q (.mv (.t 3)), []⟩,
    ⟨(some 11), none, .q (.eq .b false (.t 9) (.t 10)), []⟩,
    ⟨(some 12), none, .q (.mv (.t 11)), []⟩,
    ⟨(some 13), (some (12, true)), .q (.mv (.t 0)), []⟩,
    ⟨(some 14), (some (12, true)), .q (.mv (.t 2)), []⟩,
    ⟨(some 15), (some (12, true)), .q (.bin .eql (.t 13) (.t 14)), []⟩,
    ⟨(some 16), none, .q (.pick (.t 12) (.t 15) (.v (.bool false))), []⟩,
    ⟨(some 8), none, .q (.mv (.t 16)), []⟩]) Q a σ := id rfl
@[go_sem] theorem c22_2_wp (P : Program) (Q : APost) (a : AFr) (σ : ASt) : c22_2.wp P Q a σ = ACode.wp P (.seq c22_1 .ret) Q a σ := id rfl
@[go_sem] theorem c22_3_wp (P : Program) (Q : APost) (a : AFr) (σ : ASt) : c22_3.wp P Q a σ = ACode.wp P (.seq c22_0 c22_2) Q a σ := id rfl
def c22 : AFn := ⟨17, [.t 8], c22_3⟩
set_option maxRecDepth 100000 in
theorem c22_ok : compF Tryd.prog Tryd.f22 = some c22 := by kernel_rfl
theorem a22 {args : List AV} {σ : ASt} {R : AV → ASt → Prop} (hl : args.length ≤ 17) (h : c22_3.wp Tryd.prog (RetQ [.t 8] R) (init args) σ) : ACalls Tryd.prog 22 args σ R := acalls_of Tryd.func22 c22_ok hl h

/-! 27: tabular/deci.Trunc -/
def c27_0 : ACode := .ops [
    ⟨(some 4), none, .q (.mv (.v (.int .i64 0))), []⟩]
def c27_1 : ACode := .ops [
    ⟨(some 7), none, .q (.mv (.t 1)), []⟩,
    ⟨(some 8), none, .q (.bin .lss (.t 7) (.v (.int .i64 (-14)))), []⟩]
def c27_2 : ACode := .ops [
    ⟨(some 4), none, .q (.mv (.v (.int .i64 0))), []⟩]
def c27_3 : ACode := .seq c27_2 .ret
def c27_4 : ACode := .cond (.t 8) c27_3 .skip
def c27_5 : ACode := .seq c27_1 c27_4
def c27_6 : ACode := .ops [
    ⟨(some 10), none, .q (.mv (.t 1)), []⟩,
    ⟨(some 11), none, .e (.call 42 [(.t 10)]), []⟩,
    ⟨(some 9), none, .q (.mv (.t 11)), []⟩,
    ⟨(some 12), none, .q (.ext 0 (.t 9)), []⟩,
    ⟨(some 13), none, .q (.ext 1 (.t 9)), []⟩,
    ⟨(some 5), none, .q (.mv (.t 12)), []⟩,
    ⟨(some 6), none, .q (.mv (.t 13)), []⟩]
def c27_7 : ACode := .ops [
    ⟨(some 14), none, .q (.mv (.t 6)), []⟩,
    ⟨(some 15), none, .q (.un .not (.t 14)), []⟩]
def c27_8 : ACode := .ops [
    ⟨(some 16), none, .q (.mv (.t 0)), []⟩,
    ⟨(some 4), none, .q (.mv (.t 16)), []⟩]
def c27_9 : ACode := .seq c27_8 .ret
def c27_10 : ACode := .cond (.t 15) c27_9 .skip
def c27_11 : ACode := .seq c27_7 c27_10
def c27_12 : ACode := .ops [
    ⟨(some 17), none, .q (.mv (.t 0)), []⟩,
    ⟨(some 18), none, .q (.mv (.t 0)), []⟩,
    ⟨(some 19), none, .q (.mv (.t 5)), []⟩,
    ⟨(some 20), none, .q (.conv .i64 (.t 19)), []⟩,
    ⟨(some 21), none, .q (.bin .rem (.t 18) (.t 20)), []⟩,
    ⟨(some 22), none, .q (.bin .sub (.t 17) (.t 21)), []⟩,
    ⟨(some 4), none, .q (.mv (.t 22)), []⟩]
def c27_13 : ACode := .seq c27_12 .ret
def c27_14 : ACode := .seq c27_11 c27_13
def c27_15 : ACode := .seq c27_6 c27_14
def c27_16 : ACode := .seq c27_5 c27_15
def c27_17 : ACode := .seq c27_0 c27_16
@[go_sem] theorem c27_0_wp (P : Program) (Q : APost) (a : AFr) (σ : ASt) : c27_0.wp P Q a σ = ACode.wp P (.ops [
    ⟨(some 4), none, .q (.mv (.v (.int .i64 0))), []⟩]) Q a σ := id rfl
@[go_sem] theorem c27_1_wp (P : Program) (Q : APost) (a : AFr) (σ : ASt) : c27_1.wp P Q a σ = ACode.wp P (.ops [
    ⟨(some 7), none, .q (.mv (.t 1)), []⟩,
    ⟨(some 8), none, .q (.bin .lss (.t 7) (.v (.int .i64 (-14)))), []⟩]) Q a σ := id rfl
@[go_sem] theorem c27_2_wp (P : Program) (Q : APost) (a : AFr) (σ : ASt) : c27_2.wp P Q a σ = ACode.wp P (.ops [
    ⟨(some 4), none, .q (.mv (.v (.int .i64 0))), []⟩]) Q a σ := id rfl
@[go_sem] theorem c27_3_wp (P : Program) (Q : APost) (a : AFr) (σ : ASt) : c27_3.wp P Q a σ = ACode.wp P (.seq c27_2 .ret) Q a σ := id rfl
@[go_sem] theorem c27_4_wp (P : Program) (Q : APost) (a : AFr) (σ : ASt) : c27_4.wp P Q a σ = ACode.wp P (.cond (.t 8) c27_3 .skip) Q a σ := id rfl
@[go_sem] theorem c27_5_wp (P : Program) (Q : APost) (a : AFr) (σ : ASt) : c27_5.wp P Q a σ = ACode.wp P (.seq c27_1 c27_4) Q a σ := id rfl
@[go_sem] theorem c27_6_wp (P : Program) (Q : APost) (a : AFr) (σ : ASt) : c27_6.wp P Q a σ = ACode.wp P (.ops [
    ⟨(some 10), none, .q (.mv (.t 1)), []⟩,
    ⟨(some 11), none, .e (.call 42 [(.t 10)]), []⟩,
    ⟨(some 9), none, .q (.mv (.t 11)), []⟩,
    ⟨(some 12), none, .q (.ext 0 (.t 9)), []⟩,
    ⟨(some 13), none, .q (.ext 1 (.t 9)), []⟩,
    ⟨(some 5), none, .q (.mv (.t 12)), []⟩,
    ⟨(some 6), none, .q (.mv (.t 13)), []⟩]) Q a σ := id rfl
@[go_sem] theorem c27_7_wp (P : Program) (Q : APost) (a : AFr) (σ : ASt) : c27_7.wp P Q a σ = ACode.wp P (.ops [
    ⟨(some 14), none, .q (.mv (.t 6)), []⟩,
    ⟨(some 15), none, .q (.un .not (.t 14)), []⟩]) Q a σ := id rfl
@[go_sem] theorem c27_8_wp (P : Program) (Q : APost) (a : AFr) (σ : ASt) : c27_8.wp P Q a σ = ACode.wp P (.ops [
    ⟨(some 16), none, .q (.mv (.t 0)), []⟩,
    ⟨(some 4), none, .q (.mv (.t 16)), []⟩]) Q a σ := id rfl
@[go_sem] theorem c27_9_wp (P : Program) (Q : APost) (a : AFr) (σ : ASt) : c27_9.wp P Q a σ = ACode.wp P (.seq c27_8 .ret) Q a σ := id rfl
@[go_sem] theorem c27_10_wp (P : Program) (Q : APost) (a : AFr) (σ : ASt) : c27_10.wp P Q a σ = ACode.wp P (.cond (.t 15) c27_9 .skip) Q a σ := id rfl
@[go_sem] theorem c27_11_wp (P : Program) (Q : APost) (a : AFr) (σ : ASt) : c27_11.wp P Q a σ = ACode.wp P (.seq c27_7 c27_10) Q a σ := id rfl
@[go_sem] theorem c27_12_wp (P : Program) (Q : APost) (a : AFr) (σ : ASt) : c27_12.wp P Q a σ = ACode.wp P (.ops [
    ⟨(some 17), none, .q (.mv (.t 0)), []⟩,
    ⟨(some 18), none, .q (.mv (.t 0)), []⟩,
    ⟨(some 19), none, .q (.mv (.t 5)), []⟩,
    ⟨(some 20), none, .q (.conv .i64 (.t 19)), []⟩,
    ⟨(some 21), none, .q (.bin .rem (.t 18) (.t 20)), []⟩,
    ⟨(some 22), none, .q (.bin .sub (.t 17) (.t 21)), []⟩,
    ⟨(some 4), none, .q (.mv (.t 22)), []⟩]) Q a σ := id rfl
@[go_sem] theorem c27_13_wp (P : Program) (Q : APost) (a : AFr) (σ : ASt) : c27_13.wp P Q a σ = ACode.wp P (.seq c27_12 .ret) Q a σ := id rfl
@[go_sem] theorem c27_14_wp (P : Program) (Q : APost) (a : AFr) (σ : ASt) : c27_14.wp P Q a σ = ACode.wp P (.seq c27_11 c27_13) Q a σ := id rfl
@[go_sem] theorem c27_15_wp (P : Program) (Q : APost) (a : AFr) (σ : ASt) : c27_15.wp P Q a σ = ACode.wp P (.seq c27_6 c27_14) Q a σ := id rfl
@[go_sem] theorem c27_16_wp (P : Program) (Q : APost) (a : AFr) (σ : ASt) : c27_16.wp P Q a σ = ACode.wp P (.seq c27_5 c27_15) Q a σ := id rfl
@[go_sem] theorem c27_17_wp (P : Program) (Q : APost) (a : AFr) (σ : ASt) : c27_17.wp P Q a σ = ACode.wp P (.seq c27_0 c27_16) Q a σ := id rfl
def c27 : AFn := ⟨23, [.t 4], c27_17⟩
set_option maxRecDepth 100000 in
theorem c27_ok : compF Tryd.prog Tryd.f27 = some c27 := by kernel_rfl
theorem a27 {args : List AV} {σ : ASt} {R : AV → ASt → Prop} (hl : args.length ≤ 23) (h : c27_17.wp Tryd.prog (RetQ [.t 4] R) (init args) σ) : ACalls Tryd.prog 27 args σ R := acalls_of Tryd.func27 c27_ok hl h

/-! 29: tabular/tabularref01.Size -/
def c29_0 : ACode := .ops [
    ⟨(some 2), none, .q (.mv (.v (.int .u64 0))), []⟩]
def c29_1 : ACode := .ops [
    ⟨(some 3), none, .q (.mv (.t 0)), []⟩,
    ⟨(some 4), none, .q (.bin .lss (.t 3) (.v (.int .i64 0))), []⟩]
def c29_2 : ACode := .ops [
    ⟨(some 5), none, .q (.mv (.t 0)), []⟩,
    ⟨(some 6), none, .q (.bin .add (.t 5) (.v (.int .i64 1))), []⟩,
    ⟨(some 7), none, .q (.un .neg (.t 6)), []⟩,
    ⟨(some 8), none, .q (.conv .u64 (.t 7)), []⟩,
    ⟨(some 9), none, .q (.bin .add (.t 8) (.v (.int .u64 1))), []⟩,
    ⟨(some 2), none, .q (.mv (.t 9)), []⟩]
def c29_3 : ACode := .seq c29_2 .ret
def c29_4 : ACode := .cond (.t 4) c29_3 .skip
def c29_5 : ACode := .seq c29_1 c29_4
def c29_6 : ACode := .ops [
    ⟨(some 10), none, .q (.mv (.t 0)), []⟩,
    ⟨(some 11), none, .q (.conv .u64 (.t 10)), []⟩,
    ⟨(some 2), none, .q (.mv (.t 11)), []⟩]
def c29_7 : ACode := .seq c29_6 .ret
def c29_8 : ACode := .seq c29_5 c29_7
def c29_9 : ACode := .seq c29_0 c29_8
@[go_sem] theorem c29_0_wp (P : Program) (Q : APost) (a : AFr) (σ : ASt) : c29_0.wp P Q a σ = ACode.wp P (.ops [
    ⟨(some 2), none, .q (.mv (.v (.int .u64 0))), []⟩]) Q a σ := id rfl
@[go_sem] theorem c29_1_wp (P : Program) (Q : APost) (a : AFr) (σ : ASt) : c29_1.wp P Q a σ = ACode.wp P (.ops [
    ⟨(some 3), none, .q (.mv (.t 0)), []⟩,
    ⟨(some 4), none, .q (.bin .lss (.t 3) (.v (.int .i64 0))), []⟩]) Q a σ := id rfl
@[go_sem] theorem c29_2_wp (P : Program) (Q : APost) (a : AFr) (σ : ASt) : c29_2.wp P Q a σ = ACode.wp P (.ops [
    ⟨(some 5), none, .q (.mv (.t 0)), []⟩,
    ⟨(some 6), none, .q (.bin .add (.t 5) (.v (.int .i64 1))), []⟩,
    ⟨(some 7), none, .q (.un .neg (.t 6)), []⟩,
    ⟨(some 8), none, .q (.conv .u64 (.t 7)), []⟩,
    ⟨(some 9), none, .q (.bin .add (.t 8) (.v (.int .u64 1))), []⟩,
    ⟨(some 2), none, .q (.mv (.t 9)), []⟩]) Q a σ := id rfl
@[go_sem] theorem c29_3_wp (P : Program) (Q : APost) (a : AFr) (σ : ASt) : c29_3.wp P Q a σ = ACode.wp P (.seq c29_2 .ret) Q a σ := id rfl
@[go_sem] theorem c29_4_wp (P : Program) (Q : APost) (a : AFr) (σ : ASt) : c29_4.wp P Q a σ = ACode.wp P (.cond (.t 4) c29_3 .skip) Q a σ := id rfl
@[go_sem] theorem c29_5_wp (P : Program) (Q : APost) (a : AFr) (σ : ASt) : c29_5.wp P Q a σ = ACode.wp P (.seq c29_1 c29_4) Q a σ := id rfl
@[go_sem] theorem c29_6_wp (P : Program) (Q : APost) (a : AFr) (σ : ASt) : c29_6.wp P Q a σ = ACode.wp P (.ops [
    ⟨(some 10), none, .q (.mv (.t 0)), []⟩,
    ⟨(some 11), none, .q (.conv .u64 (.t 10)), []⟩,
    ⟨(some 2), none, .q (.mv (.t 11)), []⟩]) Q a σ := id rfl
@[go_sem] theorem c29_7_wp (P : Program) (Q : APost) (a : AFr) (σ : ASt) : c29_7.wp P Q a σ = ACode.wp P (.seq c29_6 .ret) Q a σ := id rfl
@[go_sem] theorem c29_8_wp (P : Program) (Q : APost) (a : AFr) (σ : ASt) : c29_8.wp P Q a σ = ACode.wp P (.seq c29_5 c29_7) Q a σ := id rfl
@[go_sem] theorem c29_9_wp (P : Program) (Q : APost) (a : AFr) (σ : ASt) : c29_9.wp P Q a σ = ACode.wp P (.seq c29_0 c29_8) Q a σ := id rfl
def c29 : AFn := ⟨12, [.t 2], c29_9⟩
set_option maxRecDepth 100000 in
theorem c29_ok : compF Tryd.prog Tryd.f29 = some c29 := by kernel_rfl
theorem a29 {args : List AV} {σ : ASt} {R : AV → ASt → Prop} (hl : args.length ≤ 12) (h : c29_9.wp Tryd.prog (RetQ [.t 2] R) (init args) σ) : ACalls Tryd.prog 29 args σ R := acalls_of Tryd.func29 c29_ok hl h

/-! 30: tabular/tabularref01.Floor -/
def c30_0 : ACode := .ops [
    ⟨(some 4), none, .q (.mv (.v (.int .i64 0))), []⟩,
    ⟨(some 5), none, .q (.mv (.v (.bool false))), []⟩]
def c30_1 : ACode := .ops [
    ⟨(some 6), none, .q (.mv (.t 0)), []⟩,
    ⟨(some 7), none, .q (.mv (.t 0)), []⟩,
    ⟨(some 8), none, .q (.mv (.t 1)), []⟩,
    ⟨(some 9), none, .e (.call 50 [(.t 7), (.t 8)]), []⟩,
    ⟨(some 10), none, .q (.bin .sub (.t 6) (.t 9)), []⟩,
    ⟨(some 11), none, .e (.call 49 [(.t 10)]), []⟩,
    ⟨(some 12), none, .q (.ext 0 (.t 11)), []⟩,
    ⟨(some 13), none, .q (.ext 1 (.t 11)), []⟩,
    ⟨(some 4), none, .q (.mv (.t 12)), []⟩,
    ⟨(some 5), none, .q (.mv (.t 13)), []⟩]
def c30_2 : ACode := .seq c30_1 .ret
def c30_3 : ACode := .seq c30_0 c30_2
@[go_sem] theorem c30_0_wp (P : Program) (Q : APost) (a : AFr) (σ : ASt) : c30_0.wp P Q a σ = ACode.wp P (.ops [
    ⟨(some 4), none, .q (.mv (.v (.int .i64 0))), []⟩,
    ⟨(some 5), none, .q (.mv (.v (.bool false))), []⟩]) Q a σ := id rfl
@[go_sem] theorem c30_1_wp (P : Program) (Q : APost) (a : AFr) (σ : ASt) : c30_1.wp P Q a σ = ACode.wp P (.ops [
    ⟨(some 6), none, .q (.mv (.t 0)), []⟩,
    ⟨(some 7), none, .q (.mv (.t 0)), []⟩,
    ⟨(some 8), none, .q (.mv (.t 1)), []⟩,
    ⟨(some 9), none, .e (.call 50 [(.t 7), (.t 8)]), []⟩,
    ⟨(some 10), none, .q (.bin .sub (.t 6) (.t 9)), []⟩,
    ⟨(some 11), none, .e (.call 49 [(.t 10)]), []⟩,
    ⟨(some 12), none, .q (.ext 0 (.t 11)), []⟩,
    ⟨(some 13), none, .q (.ext 1 (.t 11)), []⟩,
    ⟨(some 4), none, .q (.mv (.t 12)), []⟩,
    ⟨(some 5), none, .q (.mv (.t 13)), []⟩]) Q a σ := id rfl
@[go_sem] theorem c30_2_wp (P : Program) (Q : APost) (a : AFr) (σ : ASt) : c30_2.wp P Q a σ = ACode.wp P (.seq c30_1 .ret) Q a σ := id rfl
@[go_sem] theorem c30_3_wp (P : Program) (Q : APost) (a : AFr) (σ : ASt) : c30_3.wp P Q a σ = ACode.wp P (.seq c30_0 c30_2) Q a σ := id rfl
def c30 : AFn := ⟨14, [.t 4, .t 5], c30_3⟩
set_option maxRecDepth 100000 in
theorem c30_ok : compF Tryd.prog Tryd.f30 = some c30 := by kernel_rfl
theorem a30 {args : List AV} {σ : ASt} {R : AV → ASt → Prop} (hl : args.length ≤ 14) (h : c30_3.wp Tryd.prog (RetQ [.t 4, .t 5] R) (init args) σ) : ACalls Tryd.prog 30 args σ R := acalls_of Tryd.func30 c30_ok hl h

/-! 31: tabular/tabularref01.Ceil -/
def c31_0 : ACode := .ops [
    ⟨(some 4), none, .q (.mv (.v (.int .i64 0))), []⟩,
    ⟨(some 5), none, .q (.mv (.v (.bool false))), []⟩]
def c31_1 : ACode := .ops [
    ⟨(some 7), none, .q (.mv (.t 0)), []⟩,
    ⟨(some 8), none, .q (.mv (.t 1)), []⟩,
    ⟨(some 9), none, .e (.call 50 [(.t 7), (.t 8)]), []⟩,
    ⟨(some 6), none, .q (.mv (.t 9)), []⟩]
def c31_2 : ACode := .ops [
    ⟨(some 10), none, .q (.mv (.t 6)), []⟩,
    ⟨(some 11), none, .q (.bin .eql (.t 10) (.v (.int .i64 0))), []⟩]
def c31_3 : ACode := .ops [
    ⟨(some 12), none, .q (.mv (.t 0)), []⟩,
    ⟨(some 4), none, .q (.mv (.t 12)), []⟩,
    ⟨(some 5), none, .q (.mv (.v (.bool true))), []⟩]
def c31_4 : ACode := .seq c31_3 .ret
def c31_5 : ACode := .cond (.t 11) c31_4 .skip
def c31_6 : ACode := .seq c31_2 c31_5
def c31_7 : ACode := .ops [
    ⟨(some 13), none, .q (.mv (.t 0)), []⟩,
    ⟨(some 14), none, .q (.mv (.t 6)), []⟩,
    ⟨(some 15), none, .q (.bin .sub (.t 13) (.t 14)), []⟩,
    ⟨(some 16), none, .q (.mv (.t 1)), []⟩,
    ⟨(some 17), none, .q (.bin .add (.t 15) (.t 16)), []⟩,
    ⟨(some 18), none, .e (.call 49 [(.t 17)]), []⟩,
    ⟨(some 19), none, .q (.ext 0 (.t 18)), []⟩,
    ⟨(some 20), none, .q (.ext 1 (.t 18)), []⟩,
    ⟨(some 4), none, .q (.mv (.t 19)), []⟩,
    ⟨(some 5), none, .q (.mv (.t 20)), []⟩]
def c31_8 : ACode := .seq c31_7 .ret
def c31_9 : ACode := .seq c31_6 c31_8
def c31_10 : ACode := .seq c31_1 c31_9
def c31_11 : ACode := .seq c31_0 c31_10
@[go_sem] theorem c31_0_wp (P : Program) (Q : APost) (a : AFr) (σ : ASt) : c31_0.wp P Q a σ = ACode.wp P (.ops [
    ⟨(some 4), none, .q (.mv (.v (.int .i64 0))), []⟩,
    ⟨(some 5), none, .q (.mv (.v (.bool false))), []⟩]) Q a σ := id rfl
@[go_sem] theorem c31_1_wp (P : Program) (Q : APost) (a : AFr) (σ : ASt) : c31_1.wp P Q a σ = ACode.wp P (.ops [
    ⟨(some 7), none, .q (.mv (.t 0)), []⟩,
    ⟨(some 8), none, .q (.mv (.t 1)), []⟩,
    ⟨(some 9), none, .e (.call 50 [(.t 7), (.t 8)]), []⟩,
    ⟨(some 6), none, .q (.mv (.t 9)), []⟩]) Q a σ := id rfl
@[go_sem] theorem c31_2_wp (P : Program) (Q : APost) (a : AFr) (σ : ASt) : c31_2.wp P Q a σ = ACode.wp P (.ops [
    ⟨(some 10), none, .q (.mv (.t 6)), []⟩,
    ⟨(some 11), none, .q (.bin .eql (.t 10) (.v (.int .i64 0))), []⟩]) Q a σ := id rfl
@[go_sem] theorem c31_3_wp (P : Program) (Q : APost) (a : AFr) (σ : ASt) : c31_3.wp P Q a σ = ACode.wp P (.ops [
    ⟨(some 12), none, .q (.mv (.t 0)), []⟩,
    ⟨(some 4), none, .q (.mv (.t 12)), []⟩,
    ⟨(some 5), none, .q (.mv (.v (.bool true))), []⟩]) Q a σ := id rfl
@[go_sem] theorem c31_4_wp (P : Program) (Q : APost) (a : AFr) (σ : ASt) : c31_4.wp P Q a σ = ACode.wp P (.seq c31_3 .ret) Q a σ := id rfl
@[go_sem] theorem c31_5_wp (P : Program) (Q : APost) (a : AFr) (σ : ASt) : c31_5.wp P Q a σ = ACode.wp P (.cond (.t 11) c31_4 .skip) Q a σ := id rfl
@[go_sem] theorem c31_6_wp (P : Program) (Q : APost) (a : AFr) (σ : ASt) : c31_6.wp P Q a σ = ACode.wp P (.seq c31_2 c31_5) Q a σ := id rfl
@[go_sem] theorem c31_7_wp (P : Program) (Q : APost) (a : AFr) (σ : ASt) : c31_7.wp P Q a σ = ACode.wp P (.ops [
    ⟨(some 13), none, .q (.mv (.t 0)), []⟩,
    ⟨(some 14), none, .q (.mv (.t 6)), []⟩,
    ⟨(some 15), none, .q (.bin .sub (.t 13) (.t 14)), []⟩,
    ⟨(some 16), none, .q (.mv (.t 1)), []⟩,
    ⟨(some 17), none, .q (.bin .add (.t 15) (.t 16)), []⟩,
    ⟨(some 18), none, .e (.call 49 [(.t 17)]), []⟩,
    ⟨(some 19), none, .q (.ext 0 (.t 18)), []⟩,
    ⟨(some 20), none, .q (.ext 1 (.t 18)), []⟩,
    ⟨(some 4), none, .q (.mv (.t 19)), []⟩,
    ⟨(some 5), none, .q (.mv (.t 20)), []⟩]) Q a σ := id rfl
@[go_sem] theorem c31_8_wp (P : Program) (Q : APost) (a : AFr) (σ : ASt) : c31_8.wp P Q a σ = ACode.wp P (.seq c31_7 .ret) Q a σ := id rfl
@[go_sem] theorem c31_9_wp (P : Program) (Q : APost) (a : AFr) (σ : ASt) : c31_9.wp P Q a σ = ACode.wp P (.seq c31_6 c31_8) Q a σ := id rfl
@[go_sem] theorem c31_10_wp (P : Program) (Q : APost) (a : AFr) (σ : ASt) : c31_10.wp P Q a σ = ACode.wp P (.seq c31_1 c31_9) Q a σ := id rfl
@[go_sem] theorem c31_11_wp (P : Program) (Q : APost) (a : AFr) (σ : ASt) : c31_11.wp P Q a σ = ACode.wp P (.seq c31_0 c31_10) Q a σ := id rfl
def c31 : AFn := ⟨21, [.t 4, .t 5], c31_11⟩
set_option maxRecDepth 100000 in
theorem c31_ok : compF Tryd.prog Tryd.f31 = some c31 := by kernel_rfl
theorem a31 {args : List AV} {σ : ASt} {R : AV → ASt → Prop} (hl : args.length ≤ 21) (h : c31_11.wp Tryd.prog (RetQ [.t 4, .t 5] R) (init args) σ) : ACalls Tryd.prog 31 args σ R := acalls_of Tryd.func31 c31_ok hl h

/-! 32: tabular/deci.Sign -/
def c32_0 : ACode := .ops [
    ⟨(some 2), none, .q (.mv (.v (.int .i64 0))), []⟩]
def c32_1 : ACode := .ops [
    ⟨(some 4), none, .q (.mv (.t 0)), []⟩,
    ⟨(some 5), none, .q (.bin .lss (.t 4) (.v (.int .i64 0))), []⟩,
    ⟨(some 3), none, .q (.mv (.t 5)), []⟩]
def c32_2 : ACode := .ops [
    ⟨(some 2), none, .q (.mv (.v (.int .i64 (-1)))), []⟩]
def c32_3 : ACode := .seq c32_2 .ret
def c32_4 : ACode := .ops [
    ⟨(some 7), none, .q (.mv (.t 0)), []⟩,
    ⟨(some 8), none, .q (.bin .gtr (.t 7) (.v (.int .i64 0))), []⟩,
    ⟨(some 6), none, .q (.mv (.t 8)), []⟩]
def c32_5 : ACode := .ops [
    ⟨(some 2), none, .q (.mv (.v (.int .i64 1))), []⟩]
def c32_6 : ACode := .seq c32_5 .ret
def c32_7 : ACode := .cond (.t 6) c32_6 .skip
def c32_8 : ACode := .seq c32_4 c32_7
def c32_9 : ACode := .cond (.t 3) c32_3 c32_8
def c32_10 : ACode := .seq c32_1 c32_9
def c32_11 : ACode := .block 0 c32_10
def c32_12 : ACode := .ops [
    ⟨(some 2), none, .q (.mv (.v (.int .i64 0))), []⟩]
def c32_13 : ACode := .seq c32_12 .ret
def c32_14 : ACode := .seq c32_11 c32_13
def c32_15 : ACode := .seq c32_0 c32_14
@[go_sem] theorem c32_0_wp (P : Program) (Q : APost) (a : AFr) (σ : ASt) : c32_0.wp P Q a σ = ACode.wp P (.ops [
    ⟨(some 2), none, .q (.mv (.v (.int .i64 0))), []⟩]) Q a σ := id rfl
@[go_sem] theorem c32_1_wp (P : Program) (Q : APost) (a : AFr) (σ : ASt) : c32_1.wp P Q a σ = ACode.wp P (.ops [
    ⟨(some 4), none, .q (.mv (.t 0)), []⟩,
    ⟨(some 5), none, .q (.bin .lss (.t 4) (.v (.int .i64 0))), []⟩,
    ⟨(some 3), none, .q (.mv (.t 5)), []⟩]) Q a σ := id rfl
@[go_sem] theorem c32_2_wp (P : Program) (Q : APost) (a : AFr) (σ : ASt) : c32_2.wp P Q a σ = ACode.wp P (.ops [
    ⟨(some 2), none, .q (.mv (.v (.int .i64 (-1)))), []⟩]) Q a σ := id rfl
@[go_sem] theorem c32_3_wp (P : Program) (Q : APost) (a : AFr) (σ : ASt) : c32_3.wp P Q a σ = ACode.wp P (.seq c32_2 .ret) Q a σ := id rfl
@[go_sem] theorem c32_4_wp (P : Program) (Q : APost) (a : AFr) (σ : ASt) : c32_4.wp P Q a σ = ACode.wp P (.ops [
    ⟨(some 7), none, .q (.mv (.t 0)), []⟩,
    ⟨(some 8), none, .q (.bin .gtr (.t 7) (.v (.int .i64 0))), []⟩,
    ⟨(some 6), none, .q (.mv (.t 8)), []⟩]) Q a σ := id rfl
@[go_sem] theorem c32_5_wp (P : Program) (Q : APost) (a : AFr) (σ : ASt) : c32_5.wp P Q a σ = ACode.wp P (.ops [
    ⟨(some 2), none, .q (.mv (.v (.int .i64 1))), []⟩]) Q a σ := id rfl
@[go_sem] theorem c32_6_wp (P : Program) (Q : APost) (a : AFr) (σ : ASt) : c32_6.wp P Q a σ = ACode.wp P (.seq c32_5 .ret) Q a σ := id rfl
@[go_sem] theorem c32_7_wp (P : Program) (Q : APost) (a : AFr) (σ : ASt) : c32_7.wp P Q a σ = ACode.wp P (.cond (.t 6) c32_6 .skip) Q a σ := id rfl
@[go_sem] theorem c32_8_wp (P : Program) (Q : APost) (a : AFr) (σ : ASt) : c32_8.wp P Q a σ = ACode.wp P (.seq c32_4 c32_7) Q a σ := id rfl
@[go_sem] theorem c32_9_wp (P : Program) (Q : APost) (a : AFr) (σ : ASt) : c32_9.wp P Q a σ = ACode.wp P (.cond (.t 3) c32_3 c32_8) Q a σ := id rfl
@[go_sem] theorem c32_10_wp (P : Program) (Q : APost) (a : AFr) (σ : ASt) : c32_10.wp P Q a σ = ACode.wp P (.seq c32_1 c32_9) Q a σ := id rfl
@[go_sem] theorem c32_11_wp (P : Program) (Q : APost) (a : AFr) (σ : ASt) : c32_11.wp P Q a σ = ACode.wp P (.block 0 c32_10) Q a σ := id rfl
@[go_sem] theorem c32_12_wp (P : Program) (Q : APost) (a : AFr) (σ : ASt) : c32_12.wp P Q a σ = ACode.wp P (.ops [
    ⟨(some 2), none, .q (.mv (.v (.int .i64 0))), []⟩]) Q a σ := id rfl
@[go_sem] theorem c32_13_wp (P : Program) (Q : APost) (a : AFr) (σ : ASt) : c32_13.wp P Q a σ = ACode.wp P (.seq c32_12 .ret) Q a σ := id rfl
@[go_sem] theorem c32_14_wp (P : Program) (Q : APost) (a : AFr) (σ : ASt) : c32_14.wp P Q a σ = ACode.wp P (.seq c32_11 c32_13) Q a σ := id rfl
@[go_sem] theorem c32_15_wp (P : Program) (Q : APost) (a : AFr) (σ : ASt) : c32_15.wp P Q a σ = ACode.wp P (.seq c32_0 c32_14) Q a σ := id rfl
def c32 : AFn := ⟨9, [.t 2], c32_15⟩
set_option maxRecDepth 100000 in
theorem c32_ok : compF Tryd.prog Tryd.f32 = some c32 := by kernel_rfl
theorem a32 {args : List AV} {σ : ASt} {R : AV → ASt → Prop} (hl : args.length ≤ 9) (h : c32_15.wp Tryd.prog (RetQ [.t 2] R) (init args) σ) : ACalls Tryd.prog 32 args σ R := acalls_of Tryd.func32 c32_ok hl h

/-! 33: (tabular/deci.Dec).Whole -/
def c33_0 : ACode := .ops [
    ⟨(some 2), none, .q (.mv (.v (.int .i64 0))), []⟩]
def c33_1 : ACode := .ops [
    ⟨(some 3), none, .q (.mv (.t 0)), []⟩,
    ⟨(some 4), none, .q (.bin .quo (.t 3) (.v (.int .i64 10000))), []⟩,
    ⟨(some 2), none, .q (.mv (.t 4)), []⟩]
def c33_2 : ACode := .seq c33_1 .ret
def c33_3 : ACode := .seq c33_0 c33_2
@[go_sem] theorem c33_0_wp (P : Program) (Q : APost) (a : AFr) (σ : ASt) : c33_0.wp P Q a σ = ACode.wp P (.ops [
    ⟨(some 2), none, .q (.mv (.v (.int .i64 0))), []⟩]) Q a σ := id rfl
@[go_sem] theorem c33_1_wp (P : Program) (Q : APost) (a : AFr) (σ : ASt) : c33_1.wp P Q a σ = ACode.wp P (.ops [
    ⟨(some 3), none, .q (.mv (.t 0)), []⟩,
    ⟨(some 4), none, .q (.bin .quo (.t 3) (.v (.int .i64 10000))), []⟩,
    ⟨(some 2), none, .q (.mv (.t 4)), []⟩]) Q a σ := id rfl
@[go_sem] theorem c33_2_wp (P : Program) (Q : APost) (a : AFr) (σ : ASt) : c33_2.wp P Q a σ = ACode.wp P (.seq c33_1 .ret) Q a σ := id rfl
@[go_sem] theorem c33_3_wp (P : Program) (Q : APost) (a : AFr) (σ : ASt) : c33_3.wp P Q a σ = ACode.wp P (.seq c33_0 c33_2) Q a σ := id rfl
def c33 : AFn := ⟨5, [.t 2], c33_3⟩
set_option maxRecDepth 100000 in
theorem c33_ok : compF Tryd.prog Tryd.f33 = some c33 := by kernel_rfl
theorem a33 {args : List AV} {σ : ASt} {R : AV → ASt → Prop} (hl : args.length ≤ 5) (h : c33_3.wp Tryd.prog (RetQ [.t 2] R) (init args) σ) : ACalls Tryd.prog 33 args σ R := acalls_of Tryd.func33 c33_ok hl h

/-! 34: (tabular/deci.Dec).IsInt -/
def c34_0 : ACode := .ops [
    ⟨(some 2), none, .q (.mv (.v (.bool false))), []⟩]
def c34_1 : ACode := .ops [
    ⟨(some 3), none, .q (.mv (.t 0)), []⟩,
    ⟨(some 4), none, .q (.bin .rem (.t 3) (.v (.int .i64 10000))), []⟩,
    ⟨(some 5), none, .q (.bin .eql (.t 4) (.v (.int .i64 0))), []⟩,
    ⟨(some 2), none, .q (.mv (.t 5)), []⟩]
def c34_2 : ACode := .seq c34_1 .ret
def c34_3 : ACode := .seq c34_0 c34_2
@[go_sem] theorem c34_0_wp (P : Program) (Q : APost) (a : AFr) (σ : ASt) : c34_0.wp P Q a σ = ACode.wp P (.ops [
    ⟨(some 2), none, .q (.mv (.v (.bool false))), []⟩]) Q a σ := id rfl
@[go_sem] theorem c34_1_wp (P : Program) (Q : APost) (a : AFr) (σ : ASt) : c34_1.wp P Q a σ = ACode.wp P (.ops [
    ⟨(some 3), none, .q (.mv (.t 0)), []⟩,
    ⟨(some 4), none, .q (.bin .rem (.t 3) (.v (.int .i64 10000))), []⟩,
    ⟨(some 5), none, .q (.bin .eql (.t 4) (.v (.int .i64 0))), []⟩,
    ⟨(some 2), none, .q (.mv (.t 5)), []⟩]) Q a σ := id rfl
@[go_sem] theorem c34_2_wp (P : Program) (Q : APost) (a : AFr) (σ : ASt) : c34_2.wp P Q a σ = ACode.wp P (.seq c34_1 .ret) Q a σ := id rfl
@[go_sem] theorem c34_3_wp (P : Program) (Q : APost) (a : AFr) (σ : ASt) : c34_3.wp P Q a σ = ACode.wp P (.seq c34_0 c34_2) Q a σ := id rfl
def c34 : AFn := ⟨6, [.t 2], c34_3⟩
set_option maxRecDepth 100000 in
theorem c34_ok : compF Tryd.prog Tryd.f34 = some c34 := by kernel_rfl
theorem a34 {args : List AV} {σ : ASt} {R : AV → ASt → Prop} (hl : args.length ≤ 6) (h : c34_3.wp Tryd.prog (RetQ [.t 2] R) (init args) σ) : ACalls Tryd.prog 34 args σ R := acalls_of Tryd.func34 c34_ok hl h

/-! 45: tabular/tabularref01.Value -/
def c45_0 : ACode := .ops [
    ⟨(some 4), none, .q (.mv (.v (.int .i64 0))), []⟩,
    ⟨(some 5), none, .q (.mv (.v (.bool false))), []⟩]
def c45_1 : ACode := .ops [
    ⟨(some 6), none, .q (.mv (.v (.int .u64 0))), []⟩]
def c45_2 : ACode := .ops [
    ⟨(some 7), none, .q (.mv (.v (.int .i64 0))), []⟩]
def c45_3 : ACode := .ops [
    ⟨(some 8), none, .q (.mv (.t 7)), []⟩,
    ⟨(some 9), none, .q (.mv (.t 1)), []⟩,
    ⟨(some 10), none, .q (.lenS (.t 9)), []⟩,
    ⟨(some 11), none, .q (.bin .lss (.t 8) (.t 10)), []⟩]
def c45_4 : ACode := .cond (.t 11) .skip (.exit 0)
def c45_5 : ACode := .seq c45_3 c45_4
def c45_6 : ACode := .ops [
    ⟨(some 14), none, .q (.mv (.t 6)), []⟩,
    ⟨(some 15), none, .q (.bin .gtr (.t 14) (.v (.int .u64 99999999999999999))), []⟩]
def c45_7 : ACode := .ops [
    ⟨(some 4), none, .q (.mv (.v (.int .i64 0))), []⟩,
    ⟨(some 5), none, .q (.mv (.v (.bool false))), []⟩]
def c45_8 : ACode := .seq c45_7 .ret
def c45_9 : ACode := .cond (.t 15) c45_8 .skip
def c45_10 : ACode := .seq c45_6 c45_9
def c45_11 : ACode := .ops [
    ⟨(some 16), none, .q (.mv (.t 6)), []⟩,
    ⟨(some 17), none, .q (.bin .mul (.v (.int .u64 10)) (.t 16)), []⟩,
    ⟨(some 18), none, .q (.mv (.t 1)), []⟩,
    ⟨(some 19), none, .q (.mv (.t 7)), []⟩,
    ⟨(some 20), none, .q (.idx (.t 18) (.t 19)), []⟩,
    ⟨(some 21), none, .q (.conv .u64 (.t 20)), []⟩,
    ⟨(some 22), none, .q (.bin .add (.t 17) (.t 21)), []⟩,
    ⟨(some 23), none, .q (.bin .sub (.t 22) (.v (.int .u64 48))), []⟩,
    ⟨(some 6), none, .q (.mv (.t 23)), []⟩]
def c45_12 : ACode := .seq c45_10 c45_11
def c45_13 : ACode := .block 1 c45_12
def c45_14 : ACode := .ops [
    ⟨(some 12), none, .q (.mv (.t 7)), []⟩,
    ⟨(some 13), none, .q (.bin .add (.t 12) (.v (.int .i64 1))), []⟩,
    ⟨(some 7), none, .q (.mv (.t 13)), []⟩]
def c45_15 : ACode := .seq c45_13 c45_14
def c45_16 : ACode := .seq c45_5 c45_15
def c45_17 : ACode := .loop c45_16
def c45_18 : ACode := .block 0 c45_17
def c45_19 : ACode := .seq c45_2 c45_18
def c45_20 : ACode := .ops [
    ⟨(some 24), none, .q (.mv (.t 6)), []⟩,
    ⟨(some 25), none, .q (.bin .gtr (.t 24) (.v (.int .u64 999999999999999999))), []⟩]
def c45_21 : ACode := .ops [
    ⟨(some 4), none, .q (.mv (.v (.int .i64 0))), []⟩,
    ⟨(some 5), none, .q (.mv (.v (.bool false))), []⟩]
def c45_22 : ACode := .seq c45_21 .ret
def c45_23 : ACode := .cond (.t 25) c45_22 .skip
def c45_24 : ACode := .seq c45_20 c45_23
def c45_25 : ACode := .ops [
    ⟨(some 26), none, .q (.mv (.t 0)), []⟩]
def c45_26 : ACode := .ops [
    ⟨(some 27), none, .q (.mv (.t 6)), []⟩,
    ⟨(some 28), none, .q (.conv .i64 (.t 27)), []⟩,
    ⟨(some 29), none, .q (.un .neg (.t 28)), []⟩,
    ⟨(some 4), none, .q (.mv (.t 29)), []⟩,
    ⟨(some 5), none, .q (.mv (.v (.bool true))), []⟩]
def c45_27 : ACode := .seq c45_26 .ret
def c45_28 : ACode := .cond (.t 26) c45_27 .skip
def c45_29 : ACode := .seq c45_25 c45_28
def c45_30 : ACode := .ops [
    ⟨(some 30), none, .q (.mv (.t 6)), []⟩,
    ⟨(some 31), none, .q (.conv .i64 (.t 30)), []⟩,
    ⟨(some 4), none, .q (.mv (.t 31)), []⟩,
    ⟨(some 5), none, .q (.mv (.v (.bool true))), []⟩]
def c45_31 : ACode := .seq c45_30 .ret
def c45_32 : ACode := .seq c45_29 c45_31
def c45_33 : ACode := .seq c45_24 c45_32
def c45_34 : ACode := .seq c45_19 c45_33
def c45_35 : ACode := .seq c45_1 c45_34
def c45_36 : ACode := .seq c45_0 c45_35
@[go_sem] theorem c45_0_wp (P : Program) (Q : APost) (a : AFr) (σ : ASt) : c45_0.wp P Q a σ = ACode.wp P (.ops [
    ⟨(some 4), none, .q (.mv (.v (.int .i64 0))), []⟩,
    ⟨(some 5), none, .q (.mv (.v (.bool false))), []⟩]) Q a σ := id rfl
@[go_sem] theorem c45_1_wp (P : Program) (Q : APost) (a : AFr) (σ : ASt) : c45_1.wp P Q a σ = ACode.wp P (.ops [
    ⟨(some 6), none, .q (.mv (.v (.int .u64 0))), []⟩]) Q a σ := id rfl
@[go_sem] theorem c45_2_wp (P : Program) (Q : APost) (a : AFr) (σ : ASt) : c45_2.wp P Q a σ = ACode.wp P (.ops [
    ⟨(some 7), none, .q (.mv (.v (.int .i64 0))), []⟩]) Q a σ := id rfl
@[go_sem] theorem c45_3_wp (P : Program) (Q : APost) (a : AFr) (σ : ASt) : c45_3.wp P Q a σ = ACode.wp P (.ops [
    ⟨(some 8), none, .q (.mv (.t 7)), []⟩,
    ⟨(some 9), none, .q (.mv (.t 1)), []⟩,
    ⟨(some 10), none, .q (.lenS (.t 9)), []⟩,
    ⟨(some 11), none, .q (.bin .lss (.t 8) (.t 10)), []⟩]) Q a σ := id rfl
@[go_sem] theorem c45_4_wp (P : Program) (Q : APost) (a : AFr) (σ : ASt) : c45_4.wp P Q a σ = ACode.wp P (.cond (.t 11) .skip (.exit 0)) Q a σ := id rfl
@[go_sem] theorem c45_5_wp (P : Program) (Q : APost) (a : AFr) (σ : ASt) : c45_5.wp P Q a σ = ACode.wp P (.seq c45_3 c45_4) Q a σ := id rfl
@[go_sem] theorem c45_6_wp (P : Program) (Q : APost) (a : AFr) (σ : ASt) : c45_6.wp P Q a σ = ACode.wp P (.ops [
    ⟨(some 14), none, .q (.mv (.t 6)), []⟩,
    ⟨(some 15), none, .q (.bin .gtr (.t 14) (.v (.int .u64 99999999999999999))), []⟩]) Q a σ := id rfl
@[go_sem] theorem c45_7_wp (P : Program) (Q : APost) (a : AFr) (σ : ASt) : c45_7.wp P Q a σ = ACode.wp P (.ops [
    ⟨(some 4), none, .q (.mv (.v (.int .i64 0))), []⟩,
    ⟨(some 5), none, .q (.mv (.v (.bool false))), []⟩]) Q a σ := id rfl
@[go_sem] theorem c45_8_wp (P : Program) (Q : APost) (a : AFr) (σ : ASt) : c45_8.wp P Q a σ = ACode.wp P (.seq c45_7 .ret) Q a σ := id rfl
@[go_sem] theorem c45_9_wp (P : Program) (Q : APost) (a : AFr) (σ : ASt) : c45_9.wp P Q a σ = ACode.wp P (.cond (.t 15) c45_8 .skip) Q a σ := id rfl
@[go_sem] theorem c45_10_wp (P : Program) (Q : APost) (a : AFr) (σ : ASt) : c45_10.wp P Q a σ = ACode.wp P (.seq c45_6 c45_9) Q a σ := id rfl
@[go_sem] theorem c45_11_wp (P : Program) (Q : APost) (a : AFr) (σ : ASt) : c45_11.wp P Q a σ = ACode.wp P (.ops [
    ⟨(some 16), none, .q (.mv (.t 6)), []⟩,
    ⟨(some 17), none, .q (.bin .mul (.v (.int .u64 10)) (.t 16)), []⟩,
    ⟨(some 18), none, .q (.mv (.t 1)), []⟩,
    ⟨(some 19), none, .q (.mv (.t 7)), []⟩,
    ⟨(some 20), none, .q (.idx (.t 18) (.t 19)), []⟩,
    ⟨(some 21), none, .q (.conv .u64 (.t 20)), []⟩,
    ⟨(some 22), none, .q (.bin .add (.t 17) (.t 21)), []⟩,
    ⟨(some 23), none, .q (.bin .sub (.t 22) (.v (.int .u64 48))), []⟩,
    ⟨(some 6), none, .q (.mv (.t 23)), []⟩]) Q a σ := id rfl
@[go_sem] theorem c45_12_wp (P : Program) (Q : APost) (a : AFr) (σ : ASt) : c45_12.wp P Q a σ = ACode.wp P (.seq c45_10 c45_11) Q a σ := id rfl
@[go_sem] theorem c45_13_wp (P : Program) (Q : APost) (a : AFr) (σ : ASt) : c45_13.wp P Q a σ = ACode.wp P (.block 1 c45_12) Q a σ := id rfl
@[go_sem] theorem c45_14_wp (P : Program) (Q : APost) (a : AFr) (σ : ASt) : c45_14.wp P Q a σ = ACode.wp P (.ops [
    ⟨(some 12), none, .q (.mv (.t 7)), []⟩,
    ⟨(some 13), none, .q (.bin .add (.t 12) (.v (.int .i64 1))), []⟩,
    ⟨(some 7), none, .q (.mv (.t 13)), []⟩]) Q a σ := id rfl
@[go_sem] theorem c45_15_wp (P : Program) (Q : APost) (a : AFr) (σ : ASt) : c45_15.wp P Q a σ = ACode.wp P (.seq c45_13 c45_14) Q a σ := id rfl
@[go_sem] theorem c45_16_wp (P : Program) (Q : APost) (a : AFr) (σ : ASt) : c45_16.wp P Q a σ = ACode.wp P (.seq c45_5 c45_15) Q a σ := id rfl
@[go_sem] theorem c45_17_wp (P : Program) (Q : APost) (a : AFr) (σ : ASt) : c45_17.wp P Q a σ = ACode.wp P (.loop c45_16) Q a σ := id rfl
@[go_sem] theorem c45_18_wp (P : Program) (Q : APost) (a : AFr) (σ : ASt) : c45_18.wp P Q a σ = ACode.wp P (.block 0 c45_17) Q a σ := id rfl
@[go_sem] theorem c45_19_wp (P : Program) (Q : APost) (a : AFr) (σ : ASt) : c45_19.wp P Q a σ = ACode.wp P (.seq c45_2 c45_18) Q a σ := id rfl
@[go_sem] theorem c45_20_wp (P : Program) (Q : APost) (a : AFr) (σ : ASt) : c45_20.wp P Q a σ = ACode.wp P (.ops [
    ⟨(some 24), none, .q (.mv (.t 6)), []⟩,
    ⟨(some 25), none, .q (.bin .gtr (.t 24) (.v (.int .u64 999999999999999999))), []⟩]) Q a σ := id rfl
@[go_sem] theorem c45_21_wp (P : Program) (Q : APost) (a : AFr) (σ : ASt) : c45_21.wp P Q a σ = ACode.wp P (.ops [
    ⟨(some 4), none, .q (.mv (.v (.int .i64 0))), []⟩,
    ⟨(some 5), none, .q (.mv (.v (.bool false))), []⟩]) Q a σ := id rfl
@[go_sem] theorem c45_22_wp (P : Program) (Q : APost) (a : AFr) (σ : ASt) : c45_22.wp P Q a σ = ACode.wp P (.seq c45_21 .ret) Q a σ := id rfl
@[go_sem] theorem c45_23_wp (P : Program) (Q : APost) (a : AFr) (σ : ASt) : c45_23.wp P Q a σ = ACode.wp P (.cond (.t 25) c45_22 .skip) Q a σ := id rfl
@[go_sem] theorem c45_24_wp (P : Program) (Q : APost) (a : AFr) (σ : ASt) : c45_24.wp P Q a σ = ACode.wp P (.seq c45_20 c45_23) Q a σ := id rfl
@[go_sem] theorem c45_25_wp (P : Program) (Q : APost) (a : AFr) (σ : ASt) : c45_25.wp P Q a σ = ACode.wp P (.ops [
    ⟨(some 26), none, .q (.mv (.t 0)), []⟩]) Q a σ := id rfl
@[go_sem] theorem c45_26_wp (P : Program) (Q : APost) (a : AFr) (σ : ASt) : c45_26.wp P Q a σ = ACode.wp P (.ops [
    ⟨(some 27), none, .q (.mv (.t 6)), []⟩,
    ⟨(some 28), none, .q (.conv .i64 (.t 27)), []⟩,
    ⟨(some 29), none, .q (.un .neg (.t 28)), []⟩,
    ⟨(some 4), none, .q (.mv (.t 29)), []⟩,
    ⟨(some 5), none, .q (.mv (.v (.bool true))), []⟩]) Q a σ := id rfl
@[go_sem] theorem c45_27_wp (P : Program) (Q : APost) (a : AFr) (σ : ASt) : c45_27.wp P Q a σ = ACode.wp P (.seq c45_26 .ret) Q a σ := id rfl
@[go_sem] theorem c45_28_wp (P : Program) (Q : APost) (a : AFr) (σ : ASt) : c45_28.wp P Q a σ = ACode.wp P (.cond (.t 26) c45_27 .skip) Q a σ := id rfl
@[go_sem] theorem c45_29_wp (P : Program) (Q : APost) (a : AFr) (σ : ASt) : c45_29.wp P Q a σ = ACode.wp P (.seq c45_25 c45_28) Q a σ := id rfl
@[go_sem] theorem c45_30_wp (P : Program) (Q : APost) (a : AFr) (σ : ASt) : c45_30.wp P Q a σ = ACode.wp P (.ops [
    ⟨(some 30), none, .q (.mv (.t 6)), []⟩,
    ⟨(some 31), none, .q (.conv .i64 (.t 30)), []⟩,
    ⟨(some 4), none, .q (.mv (.t 31)), []⟩,
    ⟨(some 5), none, .q (.mv (.v (.bool true))), []⟩]) Q a σ := id rfl
@[go_sem] theorem c45_31_wp (P : Program) (Q : APost) (a : AFr) (σ : ASt) : c45_31.wp P Q a σ = ACode.wp P (.seq c45_30 .ret) Q a σ := id rfl
@[go_sem] theorem c45_32_wp (P : Program) (Q : APost) (a : AFr) (σ : ASt) : c45_32.wp P Q a σ = ACode.wp P (.seq c45_29 c45_31) Q a σ := id rfl
@[go_sem] theorem c45_33_wp (P : Program) (Q : APost) (a : AFr) (σ : ASt) : c45_33.wp P Q a σ = ACode.wp P (.seq c45_24 c45_32) Q a σ := id rfl
@[go_sem] theorem c45_34_wp (P : Program) (Q : APost) (a : AFr) (σ : ASt) : c45_34.wp P Q a σ = ACode.wp P (.seq c45_19 c45_33) Q a σ := id rfl
@[go_sem] theorem c45_35_wp (P : Program) (Q : APost) (a : AFr) (σ : ASt) : c45_35.wp P Q a σ = ACode.wp P (.seq c45_1 c45_34) Q a σ := id rfl
@[go_sem] theorem c45_36_wp (P : Program) (Q : APost) (a : AFr) (σ : ASt) : c45_36.wp P Q a σ = ACode.wp P (.seq c45_0 c45_35) Q a σ := id rfl
def c45 : AFn := ⟨32, [.t 4, .t 5], c45_36⟩
set_option maxRecDepth 100000 in
theorem c45_ok : compF Tryd.prog Tryd.f45 = some c45 := by kernel_rfl
theorem a45 {args : List AV} {σ : ASt} {R : AV → ASt → Prop} (hl : args.length ≤ 32) (h : c45_36.wp Tryd.prog (RetQ [.t 4, .t 5] R) (init args) σ) : ACalls Tryd.prog 45 args σ R := acalls_of Tryd.func45 c45_ok hl h

/-! 46: tabular/tabularref01.Strip -/
def c46_0 : ACode := .ops [
    ⟨(some 2), none, .q (.mv (.v (.str []))), []⟩]
def c46_1 : ACode := .ops [
    ⟨(some 3), none, .q (.mv (.t 0)), []⟩,
    ⟨(some 4), none, .q (.lenS (.t 3)), []⟩,
    ⟨(some 5), none, .q (.bin .gtr (.t 4) (.v (.int .i64 0))), []⟩,
    ⟨(some 6), none, .q (.mv (.t 5)), []⟩,
    ⟨(some 7), (some (6, true)), .q (.mv (.t 0)), []⟩,
    ⟨(some 8), (some (6, true)), .q (.idx (.t 7) (.v (.int .i64 0))), []⟩,
    ⟨(some 9), (some (6, true)), .q (.bin .eql (.t 8) (.v (.int .u8 48))), []⟩,
    ⟨(some 10), none, .q (.pick (.t 6) (.t 9) (.v (.bool false))), []⟩]
def c46_2 : ACode := .cond (.t 10) .skip (.exit 0)
def c46_3 : ACode := .seq c46_1 c46_2
def c46_4 : ACode := .ops [
    ⟨(some 11), none, .q (.mv (.t 0)), []⟩,
    ⟨(some 12), none, .q (.slfrom (true, 0) (.t 11) (.v (.int .i64 1))), []⟩,
    ⟨(some 0), none, .q (.mv (.t 12)), []⟩]
def c46_5 : ACode := .block 1 c46_4
def c46_6 : ACode := .seq c46_3 c46_5
def c46_7 : ACode := .loop c46_6
def c46_8 : ACode := .block 0 c46_7
def c46_9 : ACode := .ops [
    ⟨(some 13), none, .q (.mv (.t 0)), []⟩,
    ⟨(some 2), none, .q (.mv (.t 13)), []⟩]
def c46_10 : ACode := .seq c46_9 .ret
def c46_11 : ACode := .seq c46_8 c46_10
def c46_12 : ACode := .seq c46_0 c46_11
@[go_sem] theorem c46_0_wp (P : Program) (Q : APost) (a : AFr) (σ : ASt) : c46_0.wp P Q a σ = ACode.wp P (.ops [
    ⟨(some 2), none, .q (.mv (.v (.str []))), []⟩]) Q a σ := id rfl
@[go_sem] theorem c46_1_wp (P : Program) (Q : APost) (a : AFr) (σ : ASt) : c46_1.wp P Q a σ = ACode.wp P (.ops [
    ⟨(some 3), none, .q (.mv (.t 0)), []⟩,
    ⟨(some 4), none, .q (.lenS (.t 3)), []⟩,
    ⟨(some 5), none, .q (.bin .gtr (.t 4) (.v (.int .i64 0))), []⟩,
    ⟨(some 6), none, .q (.mv (.t 5)), []⟩,
    ⟨(some 7), (some (6, true)), .q (.mv (.t 0)), []⟩,
    ⟨(some 8), (some (6, true)), .q (.idx (.t 7) (.v (.int .i64 0))), []⟩,
    ⟨(some 9), (some (6, true)), .q (.bin .eql (.t 8) (.v (.int .u8 48))), []⟩,
    ⟨(some 10), none, .q (.pick (.t 6) (.t 9) (.v (.bool false))), []⟩]) Q a σ := id rfl
@[go_sem] theorem c46_2_wp (P : Program) (Q : APost) (a : AFr) (σ : ASt) : c46_2.wp P Q a σ = ACode.wp P (.cond (.t 10) .skip (.exit 0)) Q a σ := id rfl
@[go_sem] theorem c46_3_wp (P : Program) (Q : APost) (a : AFr) (σ : ASt) : c46_3.wp P Q a σ = ACode.wp P (.seq c46_1 c46_2) Q a σ := id rfl
@[go_sem] theorem c46_4_wp (P : Program) (Q : APost) (a : AFr) (σ : ASt) : c46_4.wp P Q a σ = ACode.wp P (.ops [
    ⟨(some 11), none, .q (.mv (.t 0)), []⟩,
    ⟨(some 12), none, .q (.slfrom (true, 0) (.t 11) (.v (.int .i64 1))), []⟩,
    ⟨(some 0), none, .q (.mv (.t 12)), []⟩]) Q a σ := id rfl
@[go_sem] theorem c46_5_wp (P : Program) (Q : APost) (a : AFr) (σ : ASt) : c46_5.wp P Q a σ = ACode.wp P (.block 1 c46_4) Q a σ := id rfl
@[go_sem] theorem c46_6_wp (P : Program) (Q : APost) (a : AFr) (σ : ASt) : c46_6.wp P Q a σ = ACode.wp P (.seq c46_3 c46_5) Q a σ := id rfl
@[go_sem] theorem c46_7_wp (P : Program) (Q : APost) (a : AFr) (σ : ASt) : c46_7.wp P Q a σ = ACode.wp P (.loop c46_6) Q a σ := id rfl
@[go_sem] theorem c46_8_wp (P : Program) (Q : APost) (a : AFr) (σ : ASt) : c46_8.wp P Q a σ = ACode.wp P (.block 0 c46_7) Q a σ := id rfl
@[go_sem] theorem c46_9_wp (P : Program) (Q : APost) (a : AFr) (σ : ASt) : c46_9.wp P Q a σ = ACode.wp P (.ops [
    ⟨(some 13), none, .q (.mv (.t 0)), []⟩,
    ⟨(some 2), none, .q (.mv (.t 13)), []⟩]) Q a σ := id rfl
@[go_sem] theorem c46_10_wp (P : Program) (Q : APost) (a : AFr) (σ : ASt) : c46_10.wp P Q a σ = ACode.wp P (.seq c46_9 .ret) Q a σ := id rfl
@[go_sem] theorem c46_11_wp (P : Program) (Q : APost) (a : AFr) (σ : ASt) : c46_11.wp P Q a σ = ACode.wp P (.seq c46_8 c46_10) Q a σ := id rfl
@[go_sem] theorem c46_12_wp (P : Program) (Q : APost) (a : AFr) (σ : ASt) : c46_12.wp P Q a σ = ACode.wp P (.seq c46_0 c46_11) Q a σ := id rfl
def c46 : AFn := ⟨14, [.t 2], c46_12⟩
set_option maxRecDepth 100000 in
theorem c46_ok : compF Tryd.prog Tryd.f46 = some c46 := by kernel_rfl
theorem a46 {args : List AV} {σ : ASt} {R : AV → ASt → Prop} (hl : args.length ≤ 14) (h : c46_12.wp Tryd.prog (RetQ [.t 2] R) (init args) σ) : ACalls Tryd.prog 46 args σ R := acalls_of Tryd.func46 c46_ok hl h

/-! 47: tabular/tabularref01.Digits -/
def c47_0 : ACode := .ops [
    ⟨(some 2), none, .q (.mv (.v (.str []))), []⟩]
def c47_1 : ACode := .ops [
    ⟨(some 3), none, .q (.mv (.v (.str []))), []⟩]
def c47_2 : ACode := .ops [
    ⟨(some 4), none, .q (.mv (.v (.int .i64 0))), []⟩]
def c47_3 : ACode := .ops [
    ⟨(some 5), none, .q (.mv (.t 4)), []⟩,
    ⟨(some 6), none, .q (.bin .lss (.t 5) (.v (.int .i64 20))), []⟩,
    ⟨(some 7), none, .q (.mv (.t 6)), []⟩,
    ⟨(some 8), (some (7, true)), .q (.mv (.t 4)), []⟩,
    ⟨(some 9), (some (7, true)), .q (.bin .eql (.t 8) (.v (.int .i64 0))), []⟩,
    ⟨(some 10), (some (7, true)), .q (.mv (.t 9)), []⟩,
    ⟨(some 11), (some (10, false)), .q (.mv (.t 0)), []⟩,
    ⟨(some 12), (some (10, false)), .q (.bin .gtr (.t 11) (.v (.int .u64 0))), []⟩,
    ⟨(some 13), (some (7, true)), .q (.pick (.t 10) (.v (.bool true)) (.t 12)), []⟩,
    ⟨(some 14), none, .q (.pick (.t 7) (.t 13) (.v (.bool false))), []⟩]
def c47_4 : ACode := .cond (.t 14) .skip (.exit 0)
def c47_5 : ACode := .seq c47_3 c47_4
def c47_6 : ACode := .ops [
    ⟨(some 17), none, .q (.mv (.t 0)), []⟩,
    ⟨(some 18), none, .q (.bin .rem (.t 17) (.v (.int .u64 10))), []⟩,
    ⟨(some 19), none, .q (.bin .add (.v (.int .u64 48)) (.t 18)), []⟩,
    ⟨(some 20), none, .q (.conv .u8 (.t 19)), []⟩,
    ⟨(some 21), none, .q (.bsl 1 [(.t 20)]), []⟩,
    ⟨(some 22), none, .q (.b2s (.t 21)), []⟩,
    ⟨(some 23), none, .q (.mv (.t 3)), []⟩,
    ⟨(some 24), none, .q (.bin .add (.t 22) (.t 23)), []⟩,
    ⟨(some 3), none, .q (.mv (.t 24)), []⟩]
def c47_7 : ACode := .ops [
    ⟨(some 25), none, .q (.mv (.t 0)), []⟩,
    ⟨(some 26), none, .q (.bin .quo (.t 25) (.v (.int .u64 10))), []⟩,
    ⟨(some 0), none, .q (.mv (.t 26)), []⟩]
def c47_8 : ACode := .seq c47_6 c47_7
def c47_9 : ACode := .block 1 c47_8
def c47_10 : ACode := .ops [
    ⟨(some 15), none, .q (.mv (.t 4)), []⟩,
    ⟨(some 16), none, .q (.bin .add (.t 15) (.v (.int .i64 1))), []⟩,
    ⟨(some 4), none, .q (.mv (.t 16)), []⟩]
def c47_11 : ACode := .seq c47_9 c47_10
def c47_12 : ACode := .seq c47_5 c47_11
def c47_13 : ACode := .loop c47_12
def c47_14 : ACode := .block 0 c47_13
def c47_15 : ACode := .seq c47_2 c47_14
def c47_16 : ACode := .ops [
    ⟨(some 27), none, .q (.mv (.t 3)), []⟩,
    ⟨(some 2), none, .q (.mv (.t 27)), []⟩]
def c47_17 : ACode := .seq c47_16 .ret
def c47_18 : ACode := .seq c47_15 c47_17
def c47_19 : ACode := .seq c47_1 c47_18
def c47_20 : ACode := .seq c47_0 c47_19
@[go_sem] theorem c47_0_wp (P : Program) (Q : APost) (a : AFr) (σ : ASt) : c47_0.wp P Q a σ = ACode.wp P (.ops [
    ⟨(some 2), none, .q (.mv (.v (.str []))), []⟩]) Q a σ := id rfl
@[go_sem] theorem c47_1_wp (P : Program) (Q : APost) (a : AFr) (σ : ASt) : c47_1.wp P Q a σ = ACode.wp P (.ops [
    ⟨(some 3), none, .q (.mv (.v (.str []))), []⟩]) Q a σ := id rfl
@[go_sem] theorem c47_2_wp (P : Program) (Q : APost) (a : AFr) (σ : ASt) : c47_2.wp P Q a σ = ACode.wp P (.ops [
    ⟨(some 4), none, .q (.mv (.v (.int .i64 0))), []⟩]) Q a σ := id rfl
@[go_sem] theorem c47_3_wp (P : Program) (Q : APost) (a : AFr) (σ : ASt) : c47_3.wp P Q a σ = ACode.wp P (.ops [
    ⟨(some 5), none, .q (.mv (.t 4)), []⟩,
    ⟨(some 6), none, .q (.bin .lss (.t 5) (.v (.int .i64 20))), []⟩,
    ⟨(some 7), none, .q (.mv (.t 6)), []⟩,
    ⟨(some 8), (some (7, true)), .q (.mv (.t 4)), []⟩,
    ⟨(some 9), (some (7, true)), .q (.bin .eql (.t 8) (.v (.int .i64 0))), []⟩,
    ⟨(some 10), (some (7, true)), .q (.mv (.t 9)), []⟩,
    ⟨(some 11), (some (10, false)), .q (.mv (.t 0)), []⟩,
    ⟨(some 12), (some (10, false)), .q (.bin .gtr (.t 11) (.v (.int .u64 0))), []⟩,
    ⟨(some 13), (some (7, true)), .q (.pick (.t 10) (.v (.bool true)) (.t 12)), []⟩,
    ⟨(some 14), none, .q (.pick (.t 7) (.t 13) (.v (.bool false))), []⟩]) Q a σ := id rfl
@[go_sem] theorem c47_4_wp (P : Program) (Q : APost) (a : AFr) (σ : ASt) : c47_4.wp P Q a σ = ACode.wp P (.cond (.t 14) .skip (.exit 0)) Q a σ := id rfl
@[go_sem] theorem c47_5_wp (P : Program) (Q : APost) (a : AFr) (σ : ASt) : c47_5.wp P Q a σ = ACode.wp P (.seq c47_3 c47_4) Q a σ := id rfl
@[go_sem] theorem c47_6_wp (P : Program) (Q : APost) (a : AFr) (σ : ASt) : c47_6.wp P Q a σ = ACode.wp P (.ops [
    ⟨(some 17), none, .q (.mv (.t 0)), []⟩,
    ⟨(some 18), none, .q (.bin .rem (.t 17) (.v (.int .u64 10))), []⟩,
    ⟨(some 19), none, .q (.bin .add (.v (.int .u64 48)) (.t 18)), []⟩,
    ⟨(some 20), none, .q (.conv .u8 (.t 19)), []⟩,
    ⟨(some 21), none, .q (.bsl 1 [(.t 20)]), []⟩,
    ⟨(some 22), none, .q (.b2s (.t 21)), []⟩,
    ⟨(some 23), none, .q (.mv (.t 3)), []⟩,
    ⟨(some 24), none, .q (.bin .add (.t 22) (.t 23)), []⟩,
    ⟨(some 3), none, .q (.mv (.t 24)), []⟩]) Q a σ := id rfl
@[go_sem] theorem c47_7_wp (P : Program) (Q : APost) (a : AFr) (σ : ASt) : c47_7.wp P Q a σ = ACode.wp P (.ops [
    ⟨(some 25), none, .q (.mv (.t 0)), []⟩,
    ⟨(some 26), none, .q (.bin .quo (.t 25) (.v (.int .u64 10))), []⟩,
    ⟨(some 0), none, .q (.mv (.t 26)), []⟩]) Q a σ := id rfl
@[go_sem] theorem c47_8_wp (P : Program) (Q : APost) (a : AFr) (σ : ASt) : c47_8.wp P Q a σ = ACode.wp P (.seq c47_6 c47_7) Q a σ := id rfl
@[go_sem] theorem c47_9_wp (P : Program) (Q : APost) (a : AFr) (σ : ASt) : c47_9.wp P Q a σ = ACode.wp P (.block 1 c47_8) Q a σ := id rfl
@[go_sem] theorem c47_10_wp (P : Program) (Q : APost) (a : AFr) (σ : ASt) : c47_10.wp P Q a σ = ACode.wp P (.ops [
    ⟨(some 15), none, .q (.mv (.t 4)), []⟩,
    ⟨(some 16), none, .q (.bin .add (.t 15) (.v (.int .i64 1))), []⟩,
    ⟨(some 4), none, .q (.mv (.t 16)), []⟩]) Q a σ := id rfl
@[go_sem] theorem c47_11_wp (P : Program) (Q : APost) (a : AFr) (σ : ASt) : c47_11.wp P Q a σ = ACode.wp P (.seq c47_9 c47_10) Q a σ := id rfl
@[go_sem] theorem c47_12_wp (P : Program) (Q : APost) (a : AFr) (σ : ASt) : c47_12.wp P Q a σ = ACode.wp P (.seq c47_5 c47_11) Q a σ := id rfl
@[go_sem] theorem c47_13_wp (P : Program) (Q : APost) (a : AFr) (σ : ASt) : c47_13.wp P Q a σ = ACode.wp P (.loop c47_12) Q a σ := id rfl
@[go_sem] theorem c47_14_wp (P : Program) (Q : APost) (a : AFr) (σ : ASt) : c47_14.wp P Q a σ = ACode.wp P (.block 0 c47_13) Q a σ := id rfl
@[go_sem] theorem c47_15_wp (P : Program) (Q : APost) (a : AFr) (σ : ASt) : c47_15.wp P Q a σ = ACode.wp P (.seq c47_2 c47_14) Q a σ := id rfl
@[go_sem] theorem c47_16_wp (P : Program) (Q : APost) (a : AFr) (σ : ASt) : c47_16.wp P Q a σ = ACode.wp P (.ops [
    ⟨(some 27), none, .q (.mv (.t 3)), []⟩,
    ⟨(some 2), none, .q (.mv (.t 27)), []⟩]) Q a σ := id rfl
@[go_sem] theorem c47_17_wp (P : Program) (Q : APost) (a : AFr) (σ : ASt) : c47_17.wp P Q a σ = ACode.wp P (.seq c47_16 .ret) Q a σ := id rfl
@[go_sem] theorem c47_18_wp (P : Program) (Q : APost) (a : AFr) (σ : ASt) : c47_18.wp P Q a σ = ACode.wp P (.seq c47_15 c47_17) Q a σ := id rfl
@[go_sem] theorem c47_19_wp (P : Program) (Q : APost) (a : AFr) (σ : ASt) : c47_19.wp P Q a σ = ACode.wp P (.seq c47_1 c47_18) Q a σ := id rfl
@[go_sem] theorem c47_20_wp (P : Program) (Q : APost) (a : AFr) (σ : ASt) : c47_20.wp P Q a σ = ACode.wp P (.seq c47_0 c47_19) Q a σ := id rfl
def c47 : AFn := ⟨28, [.t 2], c47_20⟩
set_option maxRecDepth 100000 in
theorem c47_ok : compF Tryd.prog Tryd.f47 = some c47 := by kernel_rfl
theorem a47 {args : List AV} {σ : ASt} {R : AV → ASt → Prop} (hl : args.length ≤ 28) (h : c47_20.wp Tryd.prog (RetQ [.t 2] R) (init args) σ) : ACalls Tryd.prog 47 args σ R := acalls_of Tryd.func47 c47_ok hl h

/-! 48: tabular/tabularref01.Cut -/
def c48_0 : ACode := .ops [
    ⟨(some 4), none, .q (.mv (.v (.str []))), []⟩]
def c48_1 : ACode := .ops [
    ⟨(some 5), none, .q (.mv (.t 0)), []⟩,
    ⟨(some 6), none, .q (.lenS (.t 5)), []⟩,
    ⟨(some 7), none, .q (.mv (.t 1)), []⟩,
    ⟨(some 8), none, .q (.bin .leq (.t 6) (.t 7)), []⟩]
def c48_2 : ACode := .cond (.t 8) .skip (.exit 0)
def c48_3 : ACode := .seq c48_1 c48_2
def c48_4 : ACode := .ops [
    ⟨(some 9), none, .q (.mv (.t 0)), []⟩,
    ⟨(some 10), none, .q (.bin .add (.v (.str [48])) (.t 9)), []⟩,
    ⟨(some 0), none, .q (.mv (.t 10)), []⟩]
def c48_5 : ACode := .block 1 c48_4
def c48_6 : ACode := .seq c48_3 c48_5
def c48_7 : ACode := .loop c48_6
def c48_8 : ACode := .block 0 c48_7
def c48_9 : ACode := .ops [
    ⟨(some 11), none, .q (.mv (.t 1)), []⟩,
    ⟨(some 12), none, .q (.bin .eql (.t 11) (.v (.int .i64 0))), []⟩]
def c48_10 : ACode := .ops [
    ⟨(some 13), none, .q (.mv (.t 0)), []⟩,
    ⟨(some 4), none, .q (.mv (.t 13)), []⟩]
def c48_11 : ACode := .seq c48_10 .ret
def c48_12 : ACode := .cond (.t 12) c48_11 .skip
def c48_13 : ACode := .seq c48_9 c48_12
def c48_14 : ACode := .ops [
    ⟨(some 14), none, .q (.mv (.t 0)), []⟩,
    ⟨(some 15), none, .q (.mv (.t 0)), []⟩,
    ⟨(some 16), none, .q (.lenS (.t 15)), []⟩,
    ⟨(some 17), none, .q (.mv (.t 1)), []⟩,
    ⟨(some 18), none, .q (.bin .sub (.t 16) (.t 17)), []⟩,
    ⟨(some 19), none, .q (.idx (.t 14) (.t 18)), []⟩,
    ⟨(some 20), none, .q (.bin .geq (.t 19) (.v (.int .u8 53))), []⟩]
def c48_15 : ACode := .ops [
    ⟨(some 21), none, .q (.mv (.t 0)), []⟩,
    ⟨(some 22), none, .q (.mv (.t 0)), []⟩,
    ⟨(some 23), none, .q (.lenS (.t 22)), []⟩,
    ⟨(some 24), none, .q (.mv (.t 1)), []⟩,
    ⟨(some 25), none, .q (.bin .sub (.t 23) (.t 24)), []⟩,
    ⟨(some 26), none, .q (.slto (true, 0) (.t 21) (.t 25)), []⟩,
    ⟨(some 27), none, .e (.call 59 [(.t 26)]), []⟩,
    ⟨(some 4), none, .q (.mv (.t 27)), []⟩]
def c48_16 : ACode := .seq c48_15 .ret
def c48_17 : ACode := .cond (.t 20) c48_16 .skip
def c48_18 : ACode := .seq c48_14 c48_17
def c48_19 : ACode := .ops [
    ⟨(some 28), none, .q (.mv (.t 0)), []⟩,
    ⟨(some 29), none, .q (.mv (.t 0)), []⟩,
    ⟨(some 30), none, .q (.lenS (.t 29)), []⟩,
    ⟨(some 31), none, .q (.mv (.t 1)), []⟩,
    ⟨(some 32), none, .q (.bin .sub (.t 30) (.t 31)), []⟩,
    ⟨(some 33), none, .q (.slto (true, 0) (.t 28) (.t 32)), []⟩,
    ⟨(some 4), none, .q (.mv (.t 33)), []⟩]
def c48_20 : ACode := .seq c48_19 .ret
def c48_21 : ACode := .seq c48_18 c48_20
def c48_22 : ACode := .seq c48_13 c48_21
def c48_23 : ACode := .seq c48_8 c48_22
def c48_24 : ACode := .seq c48_0 c48_23
@[go_sem] theorem c48_0_wp (P : Program) (Q : APost) (a : AFr) (σ : ASt) : c48_0.wp P Q a σ = ACode.wp P (.ops [
    ⟨(some 4), none, .q (.mv (.v (.str []))), []⟩]) Q a σ := id rfl
@[go_sem] theorem c48_1_wp (P : Program) (Q : APost) (a : AFr) (σ : ASt) : c48_1.wp P Q a σ = ACode.wp P (.ops [
    ⟨(some 5), none, .q (.mv (.t 0)), []⟩,
    ⟨(some 6), none, .q (.lenS (.t 5)), []⟩,
    ⟨(some 7), none, .q (.mv (.t 1)), []⟩,
    ⟨(some 8), none, .q (.bin .leq (.t 6) (.t 7)), []⟩]) Q a σ := id rfl
@[go_sem] theorem c48_2_wp (P : Program) (Q : APost) (a : AFr) (σ : ASt) : c48_2.wp P Q a σ = ACode.wp P (.cond (.t 8) .skip (.exit 0)) Q a σ := id rfl
@[go_sem] theorem c48_3_wp (P : Program) (Q : APost) (a : AFr) (σ : ASt) : c48_3.wp P Q a σ = ACode.wp P (.seq c48_1 c48_2) Q a σ := id rfl
@[go_sem] theorem c48_4_wp (P : Program) (Q : APost) (a : AFr) (σ : ASt) : c48_4.wp P Q a σ = ACode.wp P (.ops [
    ⟨(some 9), none, .q (.mv (.t 0)), []⟩,
    ⟨(some 10), none, .q (.bin .add (.v (.str [48])) (.t 9)), []⟩,
    ⟨(some 0), none, .q (.mv (.t 10)), []⟩]) Q a σ := id rfl
@[go_sem] theorem c48_5_wp (P : Program) (Q : APost) (a : AFr) (σ : ASt) : c48_5.wp P Q a σ = ACode.wp P (.block 1 c48_4) Q a σ := id rfl
@[go_sem] theorem c48_6_wp (P : Program) (Q : APost) (a : AFr) (σ : ASt) : c48_6.wp P Q a σ = ACode.wp P (.seq c48_3 c48_5) Q a σ := id rfl
@[go_sem] theorem c48_7_wp (P : Program) (Q : APost) (a : AFr) (σ : ASt) : c48_7.wp P Q a σ = ACode.wp P (.loop c48_6) Q a σ := id rfl
@[go_sem] theorem c48_8_wp (P : Program) (Q : APost) (a : AFr) (σ : ASt) : c48_8.wp P Q a σ = ACode.wp P (.block 0 c48_7) Q a σ := id rfl
@[go_sem] theorem c48_9_wp (P : Program) (Q : APost) (a : AFr) (σ : ASt) : c48_9.wp P Q a σ = ACode.wp P (.ops [
    ⟨(some 11), none, .q (.mv (.t 1)), []⟩,
    ⟨(some 12), none, .q (.bin .eql (.t 11) (.v (.int .i64 0))), []⟩]) Q a σ := id rfl
@[go_sem] theorem c48_10_wp (P : Program) (Q : APost) (a : AFr) (σ : ASt) : c48_10.wp P Q a σ = ACode.wp P (.ops [
    ⟨(some 13), none, .q (.mv (.t 0)), []⟩,
    ⟨(some 4), none, .q (.mv (.t 13)), []⟩]) Q a σ := id rfl
@[go_sem] theorem c48_11_wp (P : Program) (Q : APost) (a : AFr) (σ : ASt) : c48_11.wp P Q a σ = ACode.wp P (.seq c48_10 .ret) Q a σ := id rfl
@[go_sem] theorem c48_12_wp (P : Program) (Q : APost) (a : AFr) (σ : ASt) : c48_12.wp P Q a σ = ACode.wp P (.cond (.t 12) c48_11 .skip) Q a σ := id rfl
@[go_sem] theorem c48_13_wp (P : Program) (Q : APost) (a : AFr) (σ : ASt) : c48_13.wp P Q a σ = ACode.wp P (.seq c48_9 c48_12) Q a σ := id rfl
@[go_sem] theorem c48_14_wp (P : Program) (Q : APost) (a : AFr) (σ : ASt) : c48_14.wp P Q a σ = ACode.wp P (.ops [
    ⟨(some 14), none, .q (.mv (.t 0)), []⟩,
    ⟨(some 15), none, .q (.mv (.t 0)), []⟩,
    ⟨(some 16), none, .q (.lenS (.t 15)), []⟩,
    ⟨(some 17), none, .q (.mv (.t 1)), []⟩,
    ⟨(some 18), none, .q (.bin .sub (.t 16) (.t 17)), []⟩,
    ⟨(some 19), none, .q (.idx (.t 14) (.t 18)), []⟩,
    ⟨(some 20), none, .q (.bin .geq (.t 19) (.v (.int .u8 53))), []⟩]) Q a σ := id rfl
@[go_sem] theorem c48_15_wp (P : Program) (Q : APost) (a : AFr) (σ : ASt) : c48_15.wp P Q a σ = ACode.wp P (.ops [
    ⟨(some 21), none, .q (.mv (.t 0)), []⟩,
    ⟨(some 22), none, .q (.mv (.t 0)), []⟩,
    ⟨(some 23), none, .q (.lenS (.t 22)), []⟩,
    ⟨(some 24), none, .q (.mv (.t 1)), []⟩,
    ⟨(some 25), none, .q (.bin .sub (.t 23) (.t 24)), []⟩,
    ⟨(some 26), none, .q (.slto (true, 0) (.t 21) (.t 25)), []⟩,
    ⟨(some 27), none, .e (.call 59 [(.t 26)]), []⟩,
    ⟨(some 4), none, .q (.mv (.t 27)), []⟩]) Q a σ := id rfl
@[go_sem] theorem c48_16_wp (P : Program) (Q : APost) (a : AFr) (σ : ASt) : c48_16.wp P Q a σ = ACode.wp P (.seq c48_15 .ret) Q a σ := id rfl
@[go_sem] theorem c48_17_wp (P : Program) (Q : APost) (a : AFr) (σ : ASt) : c48_17.wp P Q a σ = ACode.wp P (.cond (.t 20) c48_16 .skip) Q a σ := id rfl
@[go_sem] theorem c48_18_wp (P : Program) (Q : APost) (a : AFr) (σ : ASt) : c48_18.wp P Q a σ = ACode.wp P (.seq c48_14 c48_17) Q a σ := id rfl
@[go_sem] theorem c48_19_wp (P : Program) (Q : APost) (a : AFr) (σ : ASt) : c48_19.wp P Q a σ = ACode.wp P (.ops [
    ⟨(some 28), none, .q (.mv (.t 0)), []⟩,
    ⟨(some 29), none, .q (.mv (.t 0)), []⟩,
    ⟨(some 30), none, .q (.lenS (.t 29)), []⟩,
    ⟨(some 31), none, .q (.mv (.t 1)), []⟩,
    ⟨(some 32), none, .q (.bin .sub (.t 30) (.t 31)), []⟩,
    ⟨(some 33), none, .q (.slto (true, 0) (.t 28) (.t 32)), []⟩,
    ⟨(some 4), none, .q (.mv (.t 33)), []⟩]) Q a σ := id rfl
@[go_sem] theorem c48_20_wp (P : Program) (Q : APost) (a : AFr) (σ : ASt) : c48_20.wp P Q a σ = ACode.wp P (.seq c48_19 .ret) Q a σ := id rfl
@[go_sem] theorem c48_21_wp (P : Program) (Q : APost) (a : AFr) (σ : ASt) : c48_21.wp P Q a σ = ACode.wp P (.seq c48_18 c48_20) Q a σ := id rfl
@[go_sem] theorem c48_22_wp (P : Program) (Q : APost) (a : AFr) (σ : ASt) : c48_22.wp P Q a σ = ACode.wp P (.seq c48_13 c48_21) Q a σ := id rfl
@[go_sem] theorem c48_23_wp (P : Program) (Q : APost) (a : AFr) (σ : ASt) : c48_23.wp P Q a σ = ACode.wp P (.seq c48_8 c48_22) Q a σ := id rfl
@[go_sem] theorem c48_24_wp (P : Program) (Q : APost) (a : AFr) (σ : ASt) : c48_24.wp P Q a σ = ACode.wp P (.seq c48_0 c48_23) Q a σ := id rfl
def c48 : AFn := ⟨34, [.t 4], c48_24⟩
set_option maxRecDepth 100000 in
theorem c48_ok : compF Tryd.prog Tryd.f48 = some c48 := by kernel_rfl
theorem a48 {args : List AV} {σ : ASt} {R : AV → ASt → Prop} (hl : args.length ≤ 34) (h : c48_24.wp Tryd.prog (RetQ [.t 4] R) (init args) σ) : ACalls Tryd.prog 48 args σ R := acalls_of Tryd.func48 c48_ok hl h

/-! 49: tabular/tabularref01.fit -/
def c49_0 : ACode := .ops [
    ⟨(some 2), none, .q (.mv (.v (.int .i64 0))), []⟩,
    ⟨(some 3), none, .q (.mv (.v (.bool false))), []⟩]
def c49_1 : ACode := .ops [
    ⟨(some 4), none, .q (.mv (.t 0)), []⟩,
    ⟨(some 5), none, .q (.bin .gtr (.t 4) (.v (.int .i64 999999999999999999))), []⟩,
    ⟨(some 6), none, .q (.mv (.t 5)), []⟩,
    ⟨(some 7), (some (6, false)), .q (.mv (.t 0)), []⟩,
    ⟨(some 8), (some (6, false)), .q (.bin .lss (.t 7) (.v (.int .i64 (-999999999999999999)))), []⟩,
    ⟨(some 9), none, .q (.pick (.t 6) (.v (.bool true)) (.t 8)), []⟩]
def c49_2 : ACode := .ops [
    ⟨(some 2), none, .q (.mv (.v (.int .i64 0))), []⟩,
    ⟨(some 3), none, .q (.mv (.v (.bool false))), []⟩]
def c49_3 : ACode := .seq c49_2 .ret
def c49_4 : ACode := .cond (.t 9) c49_3 .skip
def c49_5 : ACode := .seq c49_1 c49_4
def c49_6 : ACode := .ops [
    ⟨(some 10), none, .q (.mv (.t 0)), []⟩,
    ⟨(some 2), none, .q (.mv (.t 10)), []⟩,
    ⟨(some 3), none, .q (.mv (.v (.bool true))), []⟩]
def c49_7 : ACode := .seq c49_6 .ret
def c49_8 : ACode := .seq c49_5 c49_7
def c49_9 : ACode := .seq c49_0 c49_8
@[go_sem] theorem c49_0_wp (P : Program) (Q : APost) (a : AFr) (σ : ASt) : c49_0.wp P Q a σ = ACode.wp P (.ops [
    ⟨(some 2), none, .q (.mv (.v (.int .i64 0))), []⟩,
    ⟨(some 3), none, .q (.mv (.v (.bool false))), []⟩]) Q a σ := id rfl
@[go_sem] theorem c49_1_wp (P : Program) (Q : APost) (a : AFr) (σ : ASt) : c49_1.wp P Q a σ = ACode.wp P (.ops [
    ⟨(some 4), none, .q (.mv (.t 0)), []⟩,
    ⟨(some 5), none, .q (.bin .gtr (.t 4) (.v (.int .i64 999999999999999999))), []⟩,
    ⟨(some 6), none, .q (.mv (.t 5)), []⟩,
    ⟨(some 7), (some (6, false)), .q (.mv (.t 0)), []⟩,
    ⟨(some 8), (some (6, false)), .q (.bin .lss (.t 7) (.v (.int .i64 (-999999999999999999)))), []⟩,
    ⟨(some 9), none, .q (.pick (.t 6) (.v (.bool true)) (.t 8)), []⟩]) Q a σ := id rfl
@[go_sem] theorem c49_2_wp (P : Program) (Q : APost) (a : AFr) (σ : ASt) : c49_2.wp P Q a σ = ACode.wp P (.ops [
    ⟨(some 2), none, .q (.mv (.v (.int .i64 0))), []⟩,
    ⟨(some 3), none, .q (.mv (.v (.bool false))), []⟩]) Q a σ := id rfl
@[go_sem] theorem c49_3_wp (P : Program) (Q : APost) (a : AFr) (σ : ASt) : c49_3.wp P Q a σ = ACode.wp P (.seq c49_2 .ret) Q a σ := id rfl
@[go_sem] theorem c49_4_wp (P : Program) (Q : APost) (a : AFr) (σ : ASt) : c49_4.wp P Q a σ = ACode.wp P (.cond (.t 9) c49_3 .skip) Q a σ := id rfl
@[go_sem] theorem c49_5_wp (P : Program) (Q : APost) (a : AFr) (σ : ASt) : c49_5.wp P Q a σ = ACode.wp P (.seq c49_1 c49_4) Q a σ := id rfl
@[go_sem] theorem c49_6_wp (P : Program) (Q : APost) (a : AFr) (σ : ASt) : c49_6.wp P Q a σ = ACode.wp P (.ops [
    ⟨(some 10), none, .q (.mv (.t 0)), []⟩,
    ⟨(some 2), none, .q (.mv (.t 10)), []⟩,
    ⟨(some 3), none, .q (.mv (.v (.bool true))), []⟩]) Q a σ := id rfl
@[go_sem] theorem c49_7_wp (P : Program) (Q : APost) (a : AFr) (σ : ASt) : c49_7.wp P Q a σ = ACode.wp P (.seq c49_6 .ret) Q a σ := id rfl
@[go_sem] theorem c49_8_wp (P : Program) (Q : APost) (a : AFr) (σ : ASt) : c49_8.wp P Q a σ = ACode.wp P (.seq c49_5 c49_7) Q a σ := id rfl
@[go_sem] theorem c49_9_wp (P : Program) (Q : APost) (a : AFr) (σ : ASt) : c49_9.wp P Q a σ = ACode.wp P (.seq c49_0 c49_8) Q a σ := id rfl
def c49 : AFn := ⟨11, [.t 2, .t 3], c49_9⟩
set_option maxRecDepth 100000 in
theorem c49_ok : compF Tryd.prog Tryd.f49 = some c49 := by kernel_rfl
theorem a49 {args : List AV} {σ : ASt} {R : AV → ASt → Prop} (hl : args.length ≤ 11) (h : c49_9.wp Tryd.prog (RetQ [.t 2, .t 3] R) (init args) σ) : ACalls Tryd.prog 49 args σ R := acalls_of Tryd.func49 c49_ok hl h

/-! 50: tabular/tabularref01.Mod -/
def c50_0 : ACode := .ops [
    ⟨(some 4), none, .q (.mv (.v (.int .i64 0))), []⟩]
def c50_1 : ACode := .ops [
    ⟨(some 6), none, .q (.mv (.t 0)), []⟩,
    ⟨(some 7), none, .q (.mv (.t 0)), []⟩,
    ⟨(some 8), none, .q (.mv (.t 1)), []⟩,
    ⟨(some 9), none, .q (.bin .quo (.t 7) (.t 8)), []⟩,
    ⟨(some 10), none, .q (.mv (.t 1)), []⟩,
    ⟨(some 11), none, .q (.bin .mul (.t 9) (.t 10)), []⟩,
    ⟨(some 12), none, .q (.bin .sub (.t 6) (.t 11)), []⟩,
    ⟨(some 5), none, .q (.mv (.t 12)), []⟩]
def c50_2 : ACode := .ops [
    ⟨(some 13), none, .q (.mv (.t 5)), []⟩,
    ⟨(some 14), none, .q (.bin .lss (.t 13) (.v (.int .i64 0))), []⟩,
    ⟨(some 15), none, .q (.mv (.t 14)), []⟩,
    ⟨(some 16), (some (15, true)), .q (.mv (.t 1)), []⟩,
    ⟨(some 17), (some (15, true)), .q (.bin .gtr (.t 16) (.v (.int .i64 0))), []⟩,
    ⟨(some 18), none, .q (.pick (.t 15) (.t 17) (.v (.bool false))), []⟩,
    ⟨(some 19), none, .q (.mv (.t 18)), []⟩,
    ⟨(some 20), (some (19, false)), .q (.mv (.t 5)), []⟩,
    ⟨(some 21), (some (19, false)), .q (.bin .gtr (.t 20) (.v (.int .i64 0))), []⟩,
    ⟨(some 22), (some (19, false)), .q (.mv (.t 21)), []⟩,
    ⟨(some 23), (some (22, true)), .q (.mv (.t 1)), []⟩,
    ⟨(some 24), (some (22, true)), .q (.bin .lss (.t 23) (.v (.int .i64 0))), []⟩,
    ⟨(some 25), (some (19, false)), .q (.pick (.t 22) (.t 24) (.v (.bool false))), []⟩,
    ⟨(some 26), none, .q (.pick (.t 19) (.v (.bool true)) (.t 25)), []⟩]
def c50_3 : ACode := .ops [
    ⟨(some 27), none, .q (.mv (.t 5)), []⟩,
    ⟨(some 28), none, .q (.mv (.t 1)), []⟩,
    ⟨(some 29), none, .q (.bin .add (.t 27) (.t 28)), []⟩,
    ⟨(some 5), none, .q (.mv (.t 29)), []⟩]
def c50_4 : ACode := .cond (.t 26) c50_3 .skip
def c50_5 : ACode := .seq c50_2 c50_4
def c50_6 : ACode := .ops [
    ⟨(some 30), none, .q (.mv (.t 5)), []⟩,
    ⟨(some 4), none, .q (.mv (.t 30)), []⟩]
def c50_7 : ACode := .seq c50_6 .ret
def c50_8 : ACode := .seq c50_5 c50_7
def c50_9 : ACode := .seq c50_1 c50_8
def c50_10 : ACode := .seq c50_0 c50_9
@[go_sem] theorem c50_0_wp (P : Program) (Q : APost) (a : AFr) (σ : ASt) : c50_0.wp P Q a σ = ACode.wp P (.ops [
    ⟨(some 4), none, .q (.mv (.v (.int .i64 0))), []⟩]) Q a σ := id rfl
@[go_sem] theorem c50_1_wp (P : Program) (Q : APost) (a : AFr) (σ : ASt) : c50_1.wp P Q a σ = ACode.wp P (.ops [
    ⟨(some 6), none, .q (.mv (.t 0)), []⟩,
    ⟨(some 7), none, .q (.mv (.t 0)), []⟩,
    ⟨(some 8), none, .q (.mv (.t 1)), []⟩,
    ⟨(some 9), none, .q (.bin .quo (.t 7) (.t 8)), []⟩,
    ⟨(some 10), none, .q (.mv (.t 1)), []⟩,
    ⟨(some 11), none, .q (.bin .mul (.t 9) (.t 10)), []⟩,
    ⟨(some 12), none, .q (.bin .sub (.t 6) (.t 11)), []⟩,
    ⟨(some 5), none, .q (.mv (.t 12)), []⟩]) Q a σ := id rfl
@[go_sem] theorem c50_2_wp (P : Program) (Q : APost) (a : AFr) (σ : ASt) : c50_2.wp P Q a σ = ACode.wp P (.ops [
    ⟨(some 13), none, .q (.mv (.t 5)), []⟩,
    ⟨(some 14), none, .q (.bin .lss (.t 13) (.v (.int .i64 0))), []⟩,
    ⟨(some 15), none, .q (.mv (.t 14)), []⟩,
    ⟨(some 16), (some (15, true)), .q (.mv (.t 1)), []⟩,
    ⟨(some 17), (some (15, true)), .q (.bin .gtr (.t 16) (.v (.int .i64 0))), []⟩,
    ⟨(some 18), none, .q (.pick (.t 15) (.t 17) (.v (.bool false))), []⟩,
    ⟨(some 19), none, .q (.mv (.t 18)), []⟩,
    ⟨(some 20), (some (19, false)), .q (.mv (.t 5)), []⟩,
    ⟨(some 21), (some (19, false)), .q (.bin .gtr (.t 20) (.v (.int .i64 0))), []⟩,
    ⟨(some 22), (some (19, false)), .q (.mv (.t 21)), []⟩,
    ⟨(some 23), (some (22, true)), .q (.mv (.t 1)), []⟩,
    ⟨(some 24), (some (22, true)), .q (.bin .lss (.t 23) (.v (.int .i64 0))), []⟩,
    ⟨(some 25), (some (19, false)), .q (.pick (.t 22) (.t 24) (.v (.bool false))), []⟩,
    ⟨(some 26), none, .q (.pick (.t 19) (.v (.bool true)) (.t 25)), []⟩]) Q a σ := id rfl
@[go_sem] theorem c50_3_wp (P : Program) (Q : APost) (a : AFr) (σ : ASt) : c50_3.wp P Q a σ = ACode.wp P (.ops [
    ⟨(some 27), none, .q (.mv (.t 5)), []⟩,
    ⟨(some 28), none, .q (.mv (.t 1)), []⟩,
    ⟨(some 29), none, .q (.bin .add (.t 27) (.t 28)), []⟩,
    ⟨(some 5), none, .q (.mv (.t 29)), []⟩]) Q a σ := id rfl
@[go_sem] theorem c50_4_wp (P : Program) (Q : APost) (a : AFr) (σ : ASt) : c50_4.wp P Q a σ = ACode.wp P (.cond (.t 26) c50_3 .skip) Q a σ := id rfl
@[go_sem] theorem c50_5_wp (P : Program) (Q : APost) (a : AFr) (σ : ASt) : c50_5.wp P Q a σ = ACode.wp P (.seq c50_2 c50_4) Q a σ := id rfl
@[go_sem] theorem c50_6_wp (P : Program) (Q : APost) (a : AFr) (σ : ASt) : c50_6.wp P Q a σ = ACode.wp P (.ops [
    ⟨(some 30), none, .q (.mv (.t 5)), []⟩,
    ⟨(some 4), none, .q (.mv (.t 30)), []⟩]) Q a σ := id rfl
@[go_sem] theorem c50_7_wp (P : Program) (Q : APost) (a : AFr) (σ : ASt) : c50_7.wp P Q a σ = ACode.wp P (.seq c50_6 .ret) Q a σ := id rfl
@[go_sem] theorem c50_8_wp (P : Program) (Q : APost) (a : AFr) (σ : ASt) : c50_8.wp P Q a σ = ACode.wp P (.seq c50_5 c50_7) Q a σ := id rfl
@[go_sem] theorem c50_9_wp (P : Program) (Q : APost) (a : AFr) (σ : ASt) : c50_9.wp P Q a σ = ACode.wp P (.seq c50_1 c50_8) Q a σ := id rfl
@[go_sem] theorem c50_10_wp (P : Program) (Q : APost) (a : AFr) (σ : ASt) : c50_10.wp P Q a σ = ACode.wp P (.seq c50_0 c50_9) Q a σ := id rfl
def c50 : AFn := ⟨31, [.t 4], c50_10⟩
set_option maxRecDepth 100000 in
theorem c50_ok : compF Tryd.prog Tryd.f50 = some c50 := by kernel_rfl
theorem a50 {args : List AV} {σ : ASt} {R : AV → ASt → Prop} (hl : args.length ≤ 31) (h : c50_10.wp Tryd.prog (RetQ [.t 4] R) (init args) σ) : ACalls Tryd.prog 50 args σ R := acalls_of Tryd.func50 c50_ok hl h

/-! 59: tabular/tabularref01.Inc -/
def c59_0 : ACode := .ops [
    ⟨(some 2), none, .q (.mv (.v (.str []))), []⟩]
def c59_1 : ACode := .ops [
    ⟨(some 5), none, .q (.mv (.t 0)), []⟩,
    ⟨(some 6), none, .e (.s2b (.t 5)), []⟩,
    ⟨(some 3), none, .q (.mv (.t 6)), []⟩]
def c59_2 : ACode := .ops [
    ⟨(some 7), none, .q (.mv (.t 3)), []⟩,
    ⟨(some 8), none, .q (.len (.t 7)), []⟩,
    ⟨(some 9), none, .q (.bin .sub (.t 8) (.v (.int .i64 1))), []⟩,
    ⟨(some 4), none, .q (.mv (.t 9)), []⟩]
def c59_3 : ACode := .ops [
    ⟨(some 10), none, .q (.mv (.t 4)), []⟩,
    ⟨(some 11), none, .q (.bin .geq (.t 10) (.v (.int .i64 0))), []⟩]
def c59_4 : ACode := .cond (.t 11) .skip (.exit 0)
def c59_5 : ACode := .seq c59_3 c59_4
def c59_6 : ACode := .ops [
    ⟨(some 14), none, .q (.mv (.t 3)), []⟩,
    ⟨(some 15), none, .q (.mv (.t 4)), []⟩,
    ⟨(some 16), none, .q (.ia 1 (.t 14) (.t 15)), []⟩,
    ⟨(some 17), none, .q (.ld none (.t 16)), []⟩,
    ⟨(some 18), none, .q (.bin .lss (.t 17) (.v (.int .u8 57))), []⟩]
def c59_7 : ACode := .ops [
    ⟨(some 19), none, .q (.mv (.t 3)), []⟩,
    ⟨(some 20), none, .q (.mv (.t 4)), []⟩,
    ⟨(some 21), none, .q (.ia 1 (.t 19) (.t 20)), []⟩,
    ⟨(some 22), none, .q (.ld none (.t 21)), []⟩,
    ⟨(some 23), none, .q (.bin .add (.t 22) (.v (.int .u8 1))), []⟩,
    ⟨(some 24), none, .q (.ia 1 (.t 19) (.t 20)), []⟩,
    ⟨none, none, .e (.store 1 (.t 24) (.t 23)), []⟩]
def c59_8 : ACode := .ops [
    ⟨(some 25), none, .q (.mv (.t 3)), []⟩,
    ⟨(some 26), none, .q (.b2s (.t 25)), []⟩,
    ⟨(some 2), none, .q (.mv (.t 26)), []⟩]
def c59_9 : ACode := .seq c59_8 .ret
def c59_10 : ACode := .seq c59_7 c59_9
def c59_11 : ACode := .cond (.t 18) c59_10 .skip
def c59_12 : ACode := .seq c59_6 c59_11
def c59_13 : ACode := .ops [
    ⟨(some 27), none, .q (.mv (.t 3)), []⟩,
    ⟨(some 28), none, .q (.mv (.t 4)), []⟩,
    ⟨(some 29), none, .q (.ia 1 (.t 27) (.t 28)), []⟩,
    ⟨none, none, .e (.store 1 (.t 29) (.v (.int .u8 48))), []⟩]
def c59_14 : ACode := .seq c59_12 c59_13
def c59_15 : ACode := .block 1 c59_14
def c59_16 : ACode := .ops [
    ⟨(some 12), none, .q (.mv (.t 4)), []⟩,
    ⟨(some 13), none, .q (.bin .sub (.t 12) (.v (.int .i64 1))), []⟩,
    ⟨(some 4), none, .q (.mv (.t 13)), []⟩]
def c59_17 : ACode := .seq c59_15 c59_16
def c59_18 : ACode := .seq c59_5 c59_17
def c59_19 : ACode := .loop c59_18
def c59_20 : ACode := .block 0 c59_19
def c59_21 : ACode := .seq c59_2 c59_20
def c59_22 : ACode := .ops [
    ⟨(some 30), none, .q (.mv (.t 3)), []⟩,
    ⟨(some 31), none, .q (.b2s (.t 30)), []⟩,
    ⟨(some 32), none, .q (.bin .add (.v (.str [49])) (.t 31)), []⟩,
    ⟨(some 2), none, .q (.mv (.t 32)), []⟩]
def c59_23 : ACode := .seq c59_22 .ret
def c59_24 : ACode := .seq c59_21 c59_23
def c59_25 : ACode := .seq c59_1 c59_24
def c59_26 : ACode := .seq c59_0 c59_25
@[go_sem] theorem c59_0_wp (P : Program) (Q : APost) (a : AFr) (σ : ASt) : c59_0.wp P Q a σ = ACode.wp P (.ops [
    ⟨(some 2), none, .q (.mv (.v (.str []))), []⟩]) Q a σ := id rfl
@[go_sem] theorem c59_1_wp (P : Program) (Q : APost) (a : AFr) (σ : ASt) : c59_1.wp P Q a σ = ACode.wp P (.ops [
    ⟨(some 5), none, .q (.mv (.t 0)), []⟩,
    ⟨(some 6), none, .e (.s2b (.t 5)), []⟩,
    ⟨(some 3), none, .q (.mv (.t 6)), []⟩]) Q a σ := id rfl
@[go_sem] theorem c59_2_wp (P : Program) (Q : APost) (a : AFr) (σ : ASt) : c59_2.wp P Q a σ = ACode.wp P (.ops [
    ⟨(some 7), none, .q (.mv (.t 3)), []⟩,
    ⟨(some 8), none, .q (.len (.t 7)), []⟩,
    ⟨(some 9), none, .q (.bin .sub (.t 8) (.v (.int .i64 1))), []⟩,
    ⟨(some 4), none, .q (.mv (.t 9)), []⟩]) Q a σ := id rfl
@[go_sem] theorem c59_3_wp (P : Program) (Q : APost) (a : AFr) (σ : ASt) : c59_3.wp P Q a σ = ACode.wp P (.ops [
    ⟨(some 10), none, .q (.mv (.t 4)), []⟩,
    ⟨(some 11), none, .q (.bin .geq (.t 10) (.v (.int .i64 0))), []⟩]) Q a σ := id rfl
@[go_sem] theorem c59_4_wp (P : Program) (Q : APost) (a : AFr) (σ : ASt) : c59_4.wp P Q a σ = ACode.wp P (.cond (.t 11) .skip (.exit 0)) Q a σ := id rfl
@[go_sem] theorem c59_5_wp (P : Program) (Q : APost) (a : AFr) (σ : ASt) : c59_5.wp P Q a σ = ACode.wp P (.seq c59_3 c59_4) Q a σ := id rfl
@[go_sem] theorem c59_6_wp (P : Program) (Q : APost) (a : AFr) (σ : ASt) : c59_6.wp P Q a σ = ACode.wp P (.ops [
    ⟨(some 14), none, .q (.mv (.t 3)), []⟩,
    ⟨(some 15), none, .q (.mv (.t 4)), []⟩,
    ⟨(some 16), none, .q (.ia 1 (.t 14) (.t 15)), []⟩,
    ⟨(some 17), none, .q (.ld none (.t 16)), []⟩,
    ⟨(some 18), none, .q (.bin .lss (.t 17) (.v (.int .u8 57))), []⟩]) Q a σ := id rfl
@[go_sem] theorem c59_7_wp (P : Program) (Q : APost) (a : AFr) (σ : ASt) : c59_7.wp P Q a σ = ACode.wp P (.ops [
    ⟨(some 19), none, .q (.mv (.t 3)), []⟩,
    ⟨(some 20), none, .q (.mv (.t 4)), []⟩,
    ⟨(some 21), none, .q (.ia 1 (.t 19) (.t 20)), []⟩,
    ⟨(some 22), none, .q (.ld none (.t 21)), []⟩,
    ⟨(some 23), none, .q (.bin .add (.t 22) (.v (.int .u8 1))), []⟩,
    ⟨(some 24), none, .q (.ia 1 (.t 19) (.t 20)), []⟩,
    ⟨none, none, .e (.store 1 (.t 24) (.t 23)), []⟩]) Q a σ := id rfl
@[go_sem] theorem c59_8_wp (P : Program) (Q : APost) (a : AFr) (σ : ASt) : c59_8.wp P Q a σ = ACode.wp P (.ops [
    ⟨(some 25), none, .q (.mv (.t 3)), []⟩,
    ⟨(some 26), none, .q (.b2s (.t 25)), []⟩,
    ⟨(some 2), none, .q (.mv (.t 26)), []⟩]) Q a σ := id rfl
@[go_sem] theorem c59_9_wp (P : Program) (Q : APost) (a : AFr) (σ : ASt) : c59_9.wp P Q a σ = ACode.wp P (.seq c59_8 .ret) Q a σ := id rfl
@[go_sem] theorem c59_10_wp (P : Program) (Q : APost) (a : AFr) (σ : ASt) : c59_10.wp P Q a σ = ACode.wp P (.seq c59_7 c59_9) Q a σ := id rfl
@[go_sem] theorem c59_11_wp (P : Program) (Q : APost) (a : AFr) (σ : ASt) : c59_11.wp P Q a σ = ACode.wp P (.cond (.t 18) c59_10 .skip) Q a σ := id rfl
@[go_sem] theorem c59_12_wp (P : Program) (Q : APost) (a : AFr) (σ : ASt) : c59_12.wp P Q a σ = ACode.wp P (.seq c59_6 c59_11) Q a σ := id rfl
@[go_sem] theorem c59_13_wp (P : Program) (Q : APost) (a : AFr) (σ : ASt) : c59_13.wp P Q a σ = ACode.wp P (.ops [
    ⟨(some 27), none, .q (.mv (.t 3)), []⟩,
    ⟨(some 28), none, .q (.mv (.t 4)), []⟩,
    ⟨(some 29), none, .q (.ia 1 (.t 27) (.t 28)), []⟩,
    ⟨none, none, .e (.store 1 (.t 29) (.v (.int .u8 48))), []⟩]) Q a σ := id rfl
@[go_sem] theorem c59_14_wp (P : Program) (Q : APost) (a : AFr) (σ : ASt) : c59_14.wp P Q a σ = ACode.wp P (.seq c59_12 c59_13) Q a σ := id rfl
@[go_sem] theorem c59_15_wp (P : Program) (Q : APost) (a : AFr) (σ : ASt) : c59_15.wp P Q a σ = ACode.wp P (.block 1 c59_14) Q a σ := id rfl
@[go_sem] theorem c59_16_wp (P : Program) (Q : APost) (a : AFr) (σ : ASt) : c59_16.wp P Q a σ = ACode.wp P (.ops [
    ⟨(some 12), none, .q (.mv (.t 4)), []⟩,
    ⟨(some 13), none, .q (.bin .sub (.t 12) (.v (.int .i64 1))), []⟩,
    ⟨(some 4), none, .q (.mv (.t 13)), []⟩]) Q a σ := id rfl
@[go_sem] theorem c59_17_wp (P : Program) (Q : APost) (a : AFr) (σ : ASt) : c59_17.wp P Q a σ = ACode.wp P (.seq c59_15 c59_16) Q a σ := id rfl
@[go_sem] theorem c59_18_wp (P : Program) (Q : APost) (a : AFr) (σ : ASt) : c59_18.wp P Q a σ = ACode.wp P (.seq c59_5 c59_17) Q a σ := id rfl
@[go_sem] theorem c59_19_wp (P : Program) (Q : APost) (a : AFr) (σ : ASt) : c59_19.wp P Q a σ = ACode.wp P (.loop c59_18) Q a σ := id rfl
@[go_sem] theorem c59_20_wp (P : Program) (Q : APost) (a : AFr) (σ : ASt) : c59_20.wp P Q a σ = ACode.wp P (.block 0 c59_19) Q a σ := id rfl
@[go_sem] theorem c59_21_wp (P : Program) (Q : APost) (a : AFr) (σ : ASt) : c59_21.wp P Q a σ = ACode.wp P (.seq c59_2 c59_20) Q a σ := id rfl
@[go_sem] theorem c59_22_wp (P : Program) (Q : APost) (a : AFr) (σ : ASt) : c59_22.wp P Q a σ = ACode.wp P (.ops [
    ⟨(some 30), none, .q (.mv (.t 3)), []⟩,
    ⟨(some 31), none, .q (.b2s (.t 30)), []⟩,
    ⟨(some 32), none, .q (.bin .add (.v (.str [49])) (.t 31)), []⟩,
    ⟨(some 2), none, .q (.mv (.t 32)), []⟩]) Q a σ := id rfl
@[go_sem] theorem c59_23_wp (P : Program) (Q : APost) (a : AFr) (σ : ASt) : c59_23.wp P Q a σ = ACode.wp P (.seq c59_22 .ret) Q a σ := id rfl
@[go_sem] theorem c59_24_wp (P : Program) (Q : APost) (a : AFr) (σ : ASt) : c59_24.wp P Q a σ = ACode.wp P (.seq c59_21 c59_23) Q a σ := id rfl
@[go_sem] theorem c59_25_wp (P : Program) (Q : APost) (a : AFr) (σ : ASt) : c59_25.wp P Q a σ = ACode.wp P (.seq c59_1 c59_24) Q a σ := id rfl
@[go_sem] theorem c59_26_wp (P : Program) (Q : APost) (a : AFr) (σ : ASt) : c59_26.wp P Q a σ = ACode.wp P (.seq c59_0 c59_25) Q a σ := id rfl
def c59 : AFn := ⟨33, [.t 2], c59_26⟩
set_option maxRecDepth 100000 in
theorem c59_ok : compF Tryd.prog Tryd.f59 = some c59 := by kernel_rfl
theorem a59 {args : List AV} {σ : ASt} {R : AV → ASt → Prop} (hl : args.length ≤ 33) (h : c59_26.wp Tryd.prog (RetQ [.t 2] R) (init args) σ) : ACalls Tryd.prog 59 args σ R := acalls_of Tryd.func59 c59_ok hl h

end Go.A
