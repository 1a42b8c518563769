/- The functions, compiled: by program (wip/gencode.py). -/
import Derived.Test.YtpedaofcndaooaaDoorBk
import Derived.Test.YtpedaofcndaooaaDoorProg
import Derived.KernelRfl
namespace Go.A
open Go.Proofs

/-! 5: tabular/tabularlaw01.DeciRoots -/
def c5_0 : ACode := .ops [
    ⟨(some 2), none, .q (.mv (.v (.bool false))), []⟩]
def c5_1 : ACode := .ops [
    ⟨(some 5), none, .q (.mv (.t 0)), []⟩,
    ⟨(some 6), none, .e (.call 9 [(.t 5)]), []⟩,
    ⟨(some 7), none, .q (.un .not (.t 6)), []⟩,
    ⟨(some 8), none, .q (.mv (.t 7)), []⟩,
    ⟨(some 9), (some (8, false)), .q (.mv (.t 0)), []⟩,
    ⟨(some 10), (some (8, false)), .q (.bin .lss (.t 9) (.v (.int .i64 0))), []⟩,
    ⟨(some 11), none, .q (.pick (.t 8) (.v (.bool true)) (.t 10)), []⟩,
    ⟨(some 12), none, .q (.mv (.t 11)), []⟩,
    ⟨(some 13), (some (12, false)), .q (.mv (.t 0)), []⟩,
    ⟨(some 14), (some (12, false)), .q (.bin .gtr (.t 13) (.v (.int .i64 10000000000))), []⟩,
    ⟨(some 15), none, .q (.pick (.t 12) (.v (.bool true)) (.t 14)), []⟩]
def c5_2 : ACode := .ops [
    ⟨(some 16), none, .e (.call 10 []), []⟩,
    ⟨(some 2), none, .q (.mv (.t 16)), []⟩]
def c5_3 : ACode := .seq c5_2 .ret
def c5_4 : ACode := .cond (.t 15) c5_3 .skip
def c5_5 : ACode := .seq c5_1 c5_4
def c5_6 : ACode := .ops [
    ⟨(some 18), none, .q (.mv (.t 0)), []⟩,
    ⟨(some 19), none, .e (.call 15 [(.t 18)]), []⟩,
    ⟨(some 17), none, .q (.mv (.t 19)), []⟩,
    ⟨(some 20), none, .q (.ext 0 (.t 17)), []⟩,
    ⟨(some 21), none, .q (.ext 1 (.t 17)), []⟩,
    ⟨(some 3), none, .q (.mv (.t 20)), []⟩,
    ⟨(some 4), none, .q (.mv (.t 21)), []⟩]
def c5_7 : ACode := .ops [
    ⟨(some 22), none, .e (.call 10 []), []⟩,
    ⟨(some 23), none, .q (.mv (.t 22)), []⟩,
    ⟨(some 24), (some (23, true)), .q (.mv (.t 4)), []⟩,
    ⟨(some 25), none, .q (.pick (.t 23) (.t 24) (.v (.bool false))), []⟩,
    ⟨(some 26), none, .q (.mv (.t 25)), []⟩,
    ⟨(some 27), (some (26, true)), .q (.mv (.t 3)), []⟩,
    ⟨(some 28), (some (26, true)), .q (.bin .geq (.t 27) (.v (.int .i64 0))), []⟩,
    ⟨(some 29), none, .q (.pick (.t 26) (.t 28) (.v (.bool false))), []⟩,
    ⟨(some 30), none, .q (.mv (.t 29)), []⟩,
    ⟨(some 31), (some (30, true)), .q (.mv (.t 3)), []⟩,
    ⟨(some 32), (some (30, true)), .q (.mv (.t 3)), []⟩,
    ⟨(some 33), (some (30, true)), .q (.bin .mul (.t 31) (.t 32)), []⟩,
    ⟨(some 34), (some (30, true)), .q (.mv (.t 0)), []⟩,
    ⟨(some 35), (some (30, true)), .q (.bin .mul (.t 34) (.v (.int .i64 10000))), []⟩,
    ⟨(some 36), (some (30, true)), .q (.bin .leq (.t 33) (.t 35)), []⟩,
    ⟨(some 37), none, .q (.pick (.t 30) (.t 36) (.v (.bool false))), []⟩,
    ⟨(some 38), none, .q (.mv (.t 37)), []⟩,
    ⟨(some 39), (some (38, true)), .q (.mv (.t 3)), []⟩,
    ⟨(some 40), (some (38, true)), .q (.bin .add (.t 39) (.v (.int .i64 1))), []⟩,
    ⟨(some 41), (some (38, true)), .q (.mv (.t 3)), []⟩,
    ⟨(some 42), (some (38, true)), .q (.bin .add (.t 41) (.v (.int .i64 1))), []⟩,
    ⟨(some 43), (some (38, true)), .q (.bin .mul (.t 40) (.t 42)), []⟩,
    ⟨(some 44), (some (38, true)), .q (.mv (.t 0)), []⟩,
    ⟨(some 45), (some (38, true)), .q (.bin .mul (.t 44) (.v (.int .i64 10000))), []⟩,
    ⟨(some 46), (some (38, true)), .q (.bin .gtr (.t 43) (.t 45)), []⟩,
    ⟨(some 47), none, .q (.pick (.t 38) (.t 46) (.v (.bool false))), []⟩,
    ⟨(some 2), none, .q (.mv (.t 47)), []⟩]
def c5_8 : ACode := .seq c5_7 .ret
def c5_9 : ACode := .seq c5_6 c5_8
def c5_10 : ACode := .seq c5_5 c5_9
def c5_11 : ACode := .seq c5_0 c5_10
@[go_sem] theorem c5_0_wp (P : Program) (Q : APost) (a : AFr) (σ : ASt) : c5_0.wp P Q a σ = ACode.wp P (.ops [
    ⟨(some 2), none, .q (.mv (.v (.bool false))), []⟩]) Q a σ := id rfl
@[go_sem] theorem c5_1_wp (P : Program) (Q : APost) (a : AFr) (σ : ASt) : c5_1.wp P Q a σ = ACode.wp P (.ops [
    ⟨(some 5), none, .q (.mv (.t 0)), []⟩,
    ⟨(some 6), none, .e (.call 9 [(.t 5)]), []⟩,
    ⟨(some 7), none, .q (.un .not (.t 6)), []⟩,
    ⟨(some 8), none, .q (.mv (.t 7)), []⟩,
    ⟨(some 9), (some (8, false)), .q (.mv (.t 0)), []⟩,
    ⟨(some 10), (some (8, false)), .q (.bin .lss (.t 9) (.v (.int .i64 0))), []⟩,
    ⟨(some 11), none, .q (.pick (.t 8) (.v (.bool true)) (.t 10)), []⟩,
    ⟨(some 12), none, .q (.mv (.t 11)), []⟩,
    ⟨(some 13), (some (12, false)), .q (.mv (.t 0)), []⟩,
    ⟨(some 14), (some (12, false)), .q (.bin .gtr (.t 13) (.v (.int .i64 10000000000))), []⟩,
    ⟨(some 15), none, .q (.pick (.t 12) (.v (.bool true)) (.t 14)), []⟩]) Q a σ := id rfl
@[go_sem] theorem c5_2_wp (P : Program) (Q : APost) (a : AFr) (σ : ASt) : c5_2.wp P Q a σ = ACode.wp P (.ops [
    ⟨(some 16), none, .e (.call 10 []), []⟩,
    ⟨(some 2), none, .q (.mv (.t 16)), []⟩]) Q a σ := id rfl
@[go_sem] theorem c5_3_wp (P : Program) (Q : APost) (a : AFr) (σ : ASt) : c5_3.wp P Q a σ = ACode.wp P (.seq c5_2 .ret) Q a σ := id rfl
@[go_sem] theorem c5_4_wp (P : Program) (Q : APost) (a : AFr) (σ : ASt) : c5_4.wp P Q a σ = ACode.wp P (.cond (.t 15) c5_3 .skip) Q a σ := id rfl
@[go_sem] theorem c5_5_wp (P : Program) (Q : APost) (a : AFr) (σ : ASt) : c5_5.wp P Q a σ = ACode.wp P (.seq c5_1 c5_4) Q a σ := id rfl
@[go_sem] theorem c5_6_wp (P : Program) (Q : APost) (a : AFr) (σ : ASt) : c5_6.wp P Q a σ = ACode.wp P (.ops [
    ⟨(some 18), none, .q (.mv (.t 0)), []⟩,
    ⟨(some 19), none, .e (.call 15 [(.t 18)]), []⟩,
    ⟨(some 17), none, .q (.mv (.t 19)), []⟩,
    ⟨(some 20), none, .q (.ext 0 (.t 17)), []⟩,
    ⟨(some 21), none, .q (.ext 1 (.t 17)), []⟩,
    ⟨(some 3), none, .q (.mv (.t 20)), []⟩,
    ⟨(some 4), none, .q (.mv (.t 21)), []⟩]) Q a σ := id rfl
@[go_sem] theorem c5_7_wp (P : Program) (Q : APost) (a : AFr) (σ : ASt) : c5_7.wp P Q a σ = ACode.wp P (.ops [
    ⟨(some 22), none, .e (.call 10 []), []⟩,
    ⟨(some 23), none, .q (.mv (.t 22)), []⟩,
    ⟨(some 24), (some (23, true)), .q (.mv (.t 4)), []⟩,
    ⟨(some 25), none, .q (.pick (.t 23) (.t 24) (.v (.bool false))), []⟩,
    ⟨(some 26), none, .q (.mv (.t 25)), []⟩,
    ⟨(some 27), (some (26, true)), .q (.mv (.t 3)), []⟩,
    ⟨(some 28), (some (26, true)), .q (.bin .geq (.t 27) (.v (.int .i64 0))), []⟩,
    ⟨(some 29), none, .q (.pick (.t 26) (.t 28) (.v (.bool false))), []⟩,
    ⟨(some 30), none, .q (.mv (.t 29)), []⟩,
    ⟨(some 31), (some (30, true)), .q (.mv (.t 3)), []⟩,
    ⟨(some 32), (some (30, true)), .q (.mv (.t 3)), []⟩,
    ⟨(some 33), (some (30, true)), .q (.bin .mul (.t 31) (.t 32)), []⟩,
    ⟨(some 34), (some (30, true)), .q (.mv (.t 0)), []⟩,
    ⟨(some 35), (some (30, true)), .q (.bin .mul (.t 34) (.v (.int .i64 10000))), []⟩,
    ⟨(some 36), (some (30, true)), .q (.bin .leq (.t 33) (.t 35)), []⟩,
    ⟨(some 37), none, .q (.pick (.t 30) (.t 36) (.v (.bool false))), []⟩,
    ⟨(some 38), none, .q (.mv (.t 37)), []⟩,
    ⟨(some 39), (some (38, true)), .q (.mv (.t 3)), []⟩,
    ⟨(some 40), (some (38, true)), .q (.bin .add (.t 39) (.v (.int .i64 1))), []⟩,
    ⟨(some 41), (some (38, true)), .q (.mv (.t 3)), []⟩,
    ⟨(some 42), (some (38, true)), .q (.bin .add (.t 41) (.v (.int .i64 1))), []⟩,
    ⟨(some 43), (some (38, true)), .q (.bin .mul (.t 40) (.t 42)), []⟩,
    ⟨(some 44), (some (38, true)), .q (.mv (.t 0)), []⟩,
    ⟨(some 45), (some (38, true)), .q (.bin .mul (.t 44) (.v (.int .i64 10000))), []⟩,
    ⟨(some 46), (some (38, true)), .q (.bin .gtr (.t 43) (.t 45)), []⟩,
    ⟨(some 47), none, .q (.pick (.t 38) (.t 46) (.v (.bool false))), []⟩,
    ⟨(some 2), none, .q (.mv (.t 47)), []⟩]) Q a σ := id rfl
@[go_sem] theorem c5_8_wp (P : Program) (Q : APost) (a : AFr) (σ : ASt) : c5_8.wp P Q a σ = ACode.wp P (.seq c5_7 .ret) Q a σ := id rfl
@[go_sem] theorem c5_9_wp (P : Program) (Q : APost) (a : AFr) (σ : ASt) : c5_9.wp P Q a σ = ACode.wp P (.seq c5_6 c5_8) Q a σ := id rfl
@[go_sem] theorem c5_10_wp (P : Program) (Q : APost) (a : AFr) (σ : ASt) : c5_10.wp P Q a σ = ACode.wp P (.seq c5_5 c5_9) Q a σ := id rfl
@[go_sem] theorem c5_11_wp (P : Program) (Q : APost) (a : AFr) (σ : ASt) : c5_11.wp P Q a σ = ACode.wp P (.seq c5_0 c5_10) Q a σ := id rfl
def c5 : AFn := ⟨48, [.t 2], c5_11⟩
set_option maxRecDepth 100000 in
theorem c5_ok : compF Tryd.prog Tryd.f5 = some c5 := by kernel_rfl
theorem a5 {args : List AV} {σ : ASt} {R : AV → ASt → Prop} (hl : args.length ≤ 48) (h : c5_11.wp Tryd.prog (RetQ [.t 2] R) (init args) σ) : ACalls Tryd.prog 5 args σ R := acalls_of Tryd.func5 c5_ok hl h

/-! 15: tabular/deci.Sqrt -/
def c15_0 : ACode := .ops [
    ⟨(some 2), none, .q (.mv (.v (.int .i64 0))), []⟩,
    ⟨(some 3), none, .q (.mv (.v (.bool false))), []⟩]
def c15_1 : ACode := .ops [
    ⟨(some 11), none, .q (.mv (.t 0)), []⟩,
    ⟨(some 12), none, .q (.bin .lss (.t 11) (.v (.int .i64 0))), []⟩]
def c15_2 : ACode := .ops [
    ⟨(some 2), none, .q (.mv (.v (.int .i64 0))), []⟩,
    ⟨(some 3), none, .q (.mv (.v (.bool false))), []⟩]
def c15_3 : ACode := .seq c15_2 .ret
def c15_4 : ACode := .cond (.t 12) c15_3 .skip
def c15_5 : ACode := .seq c15_1 c15_4
def c15_6 : ACode := .ops [
    ⟨(some 14), none, .q (.mv (.t 0)), []⟩,
    ⟨(some 15), none, .q (.conv .u64 (.t 14)), []⟩,
    ⟨(some 16), none, .e (.call 43 [(.t 15), (.v (.int .u64 10000))]), []⟩,
    ⟨(some 13), none, .q (.mv (.t 16)), []⟩,
    ⟨(some 17), none, .q (.ext 0 (.t 13)), []⟩,
    ⟨(some 18), none, .q (.ext 1 (.t 13)), []⟩,
    ⟨(some 4), none, .q (.mv (.t 17)), []⟩,
    ⟨(some 5), none, .q (.mv (.t 18)), []⟩]
def c15_7 : ACode := .ops [
    ⟨(some 6), none, .q (.mv (.v (.int .u64 0))), []⟩]
def c15_8 : ACode := .ops [
    ⟨(some 7), none, .q (.mv (.v (.int .u64 137438953472))), []⟩]
def c15_9 : ACode := .ops [
    ⟨(some 19), none, .q (.mv (.t 7)), []⟩,
    ⟨(some 20), none, .q (.bin .gtr (.t 19) (.v (.int .u64 0))), []⟩]
def c15_10 : ACode := .cond (.t 20) .skip (.exit 0)
def c15_11 : ACode := .seq c15_9 c15_10
def c15_12 : ACode := .ops [
    ⟨(some 23), none, .q (.mv (.t 6)), []⟩,
    ⟨(some 24), none, .q (.mv (.t 7)), []⟩,
    ⟨(some 25), none, .q (.bin .or (.t 23) (.t 24)), []⟩,
    ⟨(some 8), none, .q (.mv (.t 25)), []⟩]
def c15_13 : ACode := .ops [
    ⟨(some 27), none, .q (.mv (.t 8)), []⟩,
    ⟨(some 28), none, .q (.mv (.t 8)), []⟩,
    ⟨(some 29), none, .e (.call 43 [(.t 27), (.t 28)]), []⟩,
    ⟨(some 26), none, .q (.mv (.t 29)), []⟩,
    ⟨(some 30), none, .q (.ext 0 (.t 26)), []⟩,
    ⟨(some 31), none, .q (.ext 1 (.t 26)), []⟩,
    ⟨(some 9), none, .q (.mv (.t 30)), []⟩,
    ⟨(some 10), none, .q (.mv (.t 31)), []⟩]
def c15_14 : ACode := .ops [
    ⟨(some 32), none, .q (.mv (.t 9)), []⟩,
    ⟨(some 33), none, .q (.mv (.t 4)), []⟩,
    ⟨(some 34), none, .q (.bin .lss (.t 32) (.t 33)), []⟩,
    ⟨(some 35), none, .q (.mv (.t 34)), []⟩,
    ⟨(some 36), (some (35, false)), .q (.mv (.t 9)), []⟩,
    ⟨(some 37), (some (35, false)), .q (.mv (.t 4)), []⟩,
    ⟨(some 38), (some (35, false)), .q (.bin .eql (.t 36) (.t 37)), []⟩,
    ⟨(some 39), (some (35, false)), .q (.mv (.t 38)), []⟩,
    ⟨(some 40), (some (39, true)), .q (.mv (.t 10)), []⟩,
    ⟨(some 41), (some (39, true)), .q (.mv (.t 5)), []⟩,
    ⟨(some 42), (some (39, true)), .q (.bin .leq (.t 40) (.t 41)), []⟩,
    ⟨(some 43), (some (35, false)), .q (.pick (.t 39) (.t 42) (.v (.bool false))), []⟩,
    ⟨(some 44), none, .q (.pick (.t 35) (.v (.bool true)) (.t 43)), []⟩]
def c15_15 : ACode := .ops [
    ⟨(some 45), none, .q (.mv (.t 8)), []⟩,
    ⟨(some 6), none, .q (.mv (.t 45)), []⟩]
def c15_16 : ACode := .cond (.t 44) c15_15 .skip
def c15_17 : ACode := .seq c15_14 c15_16
def c15_18 : ACode := .seq c15_13 c15_17
def c15_19 : ACode := .seq c15_12 c15_18
def c15_20 : ACode := .block 1 c15_19
def c15_21 : ACode := .ops [
    ⟨(some 21), none, .q (.mv (.t 7)), []⟩,
    ⟨(some 22), none, .q (.bin .shr (.t 21) (.v (.int .u64 1))), []⟩,
    ⟨(some 7), none, .q (.mv (.t 22)), []⟩]
def c15_22 : ACode := .seq c15_20 c15_21
def c15_23 : ACode := .seq c15_11 c15_22
def c15_24 : ACode := .loop c15_23
def c15_25 : ACode := .block 0 c15_24
def c15_26 : ACode := .seq c15_8 c15_25
def c15_27 : ACode := .ops [
    ⟨(some 46), none, .q (.mv (.t 6)), []⟩,
    ⟨(some 47), none, .q (.conv .i64 (.t 46)), []⟩,
    ⟨(some 2), none, .q (.mv (.t 47)), []⟩,
    ⟨(some 3), none, .q (.mv (.v (.bool true))), []⟩]
def c15_28 : ACode := .seq c15_27 .ret
def c15_29 : ACode := .seq c15_26 c15_28
def c15_30 : ACode := .seq c15_7 c15_29
def c15_31 : ACode := .seq c15_6 c15_30
def c15_32 : ACode := .seq c15_5 c15_31
def c15_33 : ACode := .seq c15_0 c15_32
@[go_sem] theorem c15_0_wp (P : Program) (Q : APost) (a : AFr) (σ : ASt) : c15_0.wp P Q a σ = ACode.wp P (.ops [
    ⟨(some 2), none, .q (.mv (.v (.int .i64 0))), []⟩,
    ⟨(some 3), none, .q (.mv (.v (.bool false))), []⟩]) Q a σ := id rfl
@[go_sem] theorem c15_1_wp (P : Program) (Q : APost) (a : AFr) (σ : ASt) : c15_1.wp P Q a σ = ACode.wp P (.ops [
    ⟨(some 11), none, .q (.mv (.t 0)), []⟩,
    ⟨(some 12), none, .q (.bin .lss (.t 11) (.v (.int .i64 0))), []⟩]) Q a σ := id rfl
@[go_sem] theorem c15_2_wp (P : Program) (Q : APost) (a : AFr) (σ : ASt) : c15_2.wp P Q a σ = ACode.wp P (.ops [
    ⟨(some 2), none, .q (.mv (.v (.int .i64 0))), []⟩,
    ⟨(some 3), none, .q (.mv (.v (.bool false))), []⟩]) Q a σ := id rfl
@[go_sem] theorem c15_3_wp (P : Program) (Q : APost) (a : AFr) (σ : ASt) : c15_3.wp P Q a σ = ACode.wp P (.seq c15_2 .ret) Q a σ := id rfl
@[go_sem] theorem c15_4_wp (P : Program) (Q : APost) (a : AFr) (σ : ASt) : c15_4.wp P Q a σ = ACode.wp P (.cond (.t 12) c15_3 .skip) Q a σ := id rfl
@[go_sem] theorem c15_5_wp (P : Program) (Q : APost) (a : AFr) (σ : ASt) : c15_5.wp P Q a σ = ACode.wp P (.seq c15_1 c15_4) Q a σ := id rfl
@[go_sem] theorem c15_6_wp (P : Program) (Q : APost) (a : AFr) (σ : ASt) : c15_6.wp P Q a σ = ACode.wp P (.ops [
    ⟨(some 14), none, .q (.mv (.t 0)), []⟩,
    ⟨(some 15), none, .q (.conv .u64 (.t 14)), []⟩,
    ⟨(some 16), none, .e (.call 43 [(.t 15), (.v (.int .u64 10000))]), []⟩,
    ⟨(some 13), none, .q (.mv (.t 16)), []⟩,
    ⟨(some 17), none, .q (.ext 0 (.t 13)), []⟩,
    ⟨(some 18), none, .q (.ext 1 (.t 13)), []⟩,
    ⟨(some 4), none, .q (.mv (.t 17)), []⟩,
    ⟨(some 5), none, .q (.mv (.t 18)), []⟩]) Q a σ := id rfl
@[go_sem] theorem c15_7_wp (P : Program) (Q : APost) (a : AFr) (σ : ASt) : c15_7.wp P Q a σ = ACode.wp P (.ops [
    ⟨(some 6), none, .q (.mv (.v (.int .u64 0))), []⟩]) Q a σ := id rfl
@[go_sem] theorem c15_8_wp (P : Program) (Q : APost) (a : AFr) (σ : ASt) : c15_8.wp P Q a σ = ACode.wp P (.ops [
    ⟨(some 7), none, .q (.mv (.v (.int .u64 137438953472))), []⟩]) Q a σ := id rfl
@[go_sem] theorem c15_9_wp (P : Program) (Q : APost) (a : AFr) (σ : ASt) : c15_9.wp P Q a σ = ACode.wp P (.ops [
    ⟨(some 19), none, .q (.mv (.t 7)), []⟩,
    ⟨(some 20), none, .q (.bin .gtr (.t 19) (.v (.int .u64 0))), []⟩]) Q a σ := id rfl
@[go_sem] theorem c15_10_wp (P : Program) (Q : APost) (a : AFr) (σ : ASt) : c15_10.wp P Q a σ = ACode.wp P (.cond (.t 20) .skip (.exit 0)) Q a σ := id rfl
@[go_sem] theorem c15_11_wp (P : Program) (Q : APost) (a : AFr) (σ : ASt) : c15_11.wp P Q a σ = ACode.wp P (.seq c15_9 c15_10) Q a σ := id rfl
@[go_sem] theorem c15_12_wp (P : Program) (Q : APost) (a : AFr) (σ : ASt) : c15_12.wp P Q a σ = ACode.wp P (.ops [
    ⟨(some 23), none, .q (.mv (.t 6)), []⟩,
    ⟨(some 24), none, .q (.mv (.t 7)), []⟩,
    ⟨(some 25), none, .q (.bin .or (.t 23) (.t 24)), []⟩,
    ⟨(some 8), none, .q (.mv (.t 25)), []⟩]) Q a σ := id rfl
@[go_sem] theorem c15_13_wp (P : Program) (Q : APost) (a : AFr) (σ : ASt) : c15_13.wp P Q a σ = ACode.wp P (.ops [
    ⟨(some 27), none, .q (.mv (.t 8)), []⟩,
    ⟨(some 28), none, .q (.mv (.t 8)), []⟩,
    ⟨(some 29), none, .e (.call 43 [(.t 27), (.t 28)]), []⟩,
    ⟨(some 26), none, .q (.mv (.t 29)), []⟩,
    ⟨(some 30), none, .q (.ext 0 (.t 26)), []⟩,
    ⟨(some 31), none, .q (.ext 1 (.t 26)), []⟩,
    ⟨(some 9), none, .q (.mv (.t 30)), []⟩,
    ⟨(some 10), none, .q (.mv (.t 31)), []⟩]) Q a σ := id rfl
@[go_sem] theorem c15_14_wp (P : Program) (Q : APost) (a : AFr) (σ : ASt) : c15_14.wp P Q a σ = ACode.wp P (.ops [
    ⟨(some 32), none, .q (.mv (.t 9)), []⟩,
    ⟨(some 33), none, .q (.mv (.t 4)), []⟩,
    ⟨(some 34), none, .q (.bin .lss (.t 32) (.t 33)), []⟩,
    ⟨(some 35), none, .q (.mv (.t 34)), []⟩,
    ⟨(some 36), (some (35, false)), .q (.mv (.t 9)), []⟩,
    ⟨(some 37), (some (35, false)), .q (.mv (.t 4)), []⟩,
    ⟨(some 38), (some (35, false)), .q (.bin .eql (.t 36) (.t 37)), []⟩,
    ⟨(some 39), (some (35, false)), .q (.mv (.t 38)), []⟩,
    ⟨(some 40), (some (39, true)), .q (.mv (.t 10)), []⟩,
    ⟨(some 41), (some (39, true)), .q (.mv (.t 5)), []⟩,
    ⟨(some 42), (some (39, true)), .q (.bin .leq (.t 40) (.t 41)), []⟩,
    ⟨(some 43), (some (35, false)), .q (.pick (.t 39) (.t 42) (.v (.bool false))), []⟩,
    ⟨(some 44), none, .q (.pick (.t 35) (.v (.bool true)) (.t 43)), []⟩]) Q a σ := id rfl
@[go_sem] theorem c15_15_wp (P : Program) (Q : APost) (a : AFr) (σ : ASt) : c15_15.wp P Q a σ = ACode.wp P (.ops [
    ⟨(some 45), none, .q (.mv (.t 8)), []⟩,
    ⟨(some 6), none, .q (.mv (.t 45)), []⟩]) Q a σ := id rfl
@[go_sem] theorem c15_16_wp (P : Program) (Q : APost) (a : AFr) (σ : ASt) : c15_16.wp P Q a σ = ACode.wp P (.cond (.t 44) c15_15 .skip) Q a σ := id rfl
@[go_sem] theorem c15_17_wp (P : Program) (Q : APost) (a : AFr) (σ : ASt) : c15_17.wp P Q a σ = ACode.wp P (.seq c15_14 c15_16) Q a σ := id rfl
@[go_sem] theorem c15_18_wp (P : Program) (Q : APost) (a : AFr) (σ : ASt) : c15_18.wp P Q a σ = ACode.wp P (.seq c15_13 c15_17) Q a σ := id rfl
@[go_sem] theorem c15_19_wp (P : Program) (Q : APost) (a : AFr) (σ : ASt) : c15_19.wp P Q a σ = ACode.wp P (.seq c15_12 c15_18) Q a σ := id rfl
@[go_sem] theorem c15_20_wp (P : Program) (Q : APost) (a : AFr) (σ : ASt) : c15_20.wp P Q a σ = ACode.wp P (.block 1 c15_19) Q a σ := id rfl
@[go_sem] theorem c15_21_wp (P : Program) (Q : APost) (a : AFr) (σ : ASt) : c15_21.wp P Q a σ = ACode.wp P (.ops [
    ⟨(some 21), none, .q (.mv (.t 7)), []⟩,
    ⟨(some 22), none, .q (.bin .shr (.t 21) (.v (.int .u64 1))), []⟩,
    ⟨(some 7), none, .q (.mv (.t 22)), []⟩]) Q a σ := id rfl
@[go_sem] theorem c15_22_wp (P : Program) (Q : APost) (a : AFr) (σ : ASt) : c15_22.wp P Q a σ = ACode.wp P (.seq c15_20 c15_21) Q a σ := id rfl
@[go_sem] theorem c15_23_wp (P : Program) (Q : APost) (a : AFr) (σ : ASt) : c15_23.wp P Q a σ = ACode.wp P (.seq c15_11 c15_22) Q a σ := id rfl
@[go_sem] theorem c15_24_wp (P : Program) (Q : APost) (a : AFr) (σ : ASt) : c15_24.wp P Q a σ = ACode.wp P (.loop c15_23) Q a σ := id rfl
@[go_sem] theorem c15_25_wp (P : Program) (Q : APost) (a : AFr) (σ : ASt) : c15_25.wp P Q a σ = ACode.wp P (.block 0 c15_24) Q a σ := id rfl
@[go_sem] theorem c15_26_wp (P : Program) (Q : APost) (a : AFr) (σ : ASt) : c15_26.wp P Q a σ = ACode.wp P (.seq c15_8 c15_25) Q a σ := id rfl
@[go_sem] theorem c15_27_wp (P : Program) (Q : APost) (a : AFr) (σ : ASt) : c15_27.wp P Q a σ = ACode.wp P (.ops [
    ⟨(some 46), none, .q (.mv (.t 6)), []⟩,
    ⟨(some 47), none, .q (.conv .i64 (.t 46)), []⟩,
    ⟨(some 2), none, .q (.mv (.t 47)), []⟩,
    ⟨(some 3), none, .q (.mv (.v (.bool true))), []⟩]) Q a σ := id rfl
@[go_sem] theorem c15_28_wp (P : Program) (Q : APost) (a : AFr) (σ : ASt) : c15_28.wp P Q a σ = ACode.wp P (.seq c15_27 .ret) Q a σ := id rfl
@[go_sem] theorem c15_29_wp (P : Program) (Q : APost) (a : AFr) (σ : ASt) : c15_29.wp P Q a σ = ACode.wp P (.seq c15_26 c15_28) Q a σ := id rfl
@[go_sem] theorem c15_30_wp (P : Program) (Q : APost) (a : AFr) (σ : ASt) : c15_30.wp P Q a σ = ACode.wp P (.seq c15_7 c15_29) Q a σ := id rfl
@[go_sem] theorem c15_31_wp (P : Program) (Q : APost) (a : AFr) (σ : ASt) : c15_31.wp P Q a σ = ACode.wp P (.seq c15_6 c15_30) Q a σ := id rfl
@[go_sem] theorem c15_32_wp (P : Program) (Q : APost) (a : AFr) (σ : ASt) : c15_32.wp P Q a σ = ACode.wp P (.seq c15_5 c15_31) Q a σ := id rfl
@[go_sem] theorem c15_33_wp (P : Program) (Q : APost) (a : AFr) (σ : ASt) : c15_33.wp P Q a σ = ACode.wp P (.seq c15_0 c15_32) Q a σ := id rfl
def c15 : AFn := ⟨48, [.t 2, .t 3], c15_33⟩
set_option maxRecDepth 100000 in
theorem c15_ok : compF Tryd.prog Tryd.f15 = some c15 := by kernel_rfl
theorem a15 {args : List AV} {σ : ASt} {R : AV → ASt → Prop} (hl : args.length ≤ 48) (h : c15_33.wp Tryd.prog (RetQ [.t 2, .t 3] R) (init args) σ) : ACalls Tryd.prog 15 args σ R := acalls_of Tryd.func15 c15_ok hl h

end Go.A
