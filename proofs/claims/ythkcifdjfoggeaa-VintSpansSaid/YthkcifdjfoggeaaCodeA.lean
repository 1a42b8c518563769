/- The functions, compiled: by program (wip/gencode.py). -/
import Derived.Test.YthkcifdjfoggeaaBk
import Derived.Test.YthkcifdjfoggeaaProg
import Derived.KernelRfl
namespace Go.A
open Go.Proofs

/-! 5: tabular/tabularlaw02.VintOrder -/
def c5_0 : ACode := .ops [
    ⟨(some 2), none, .q (.mv (.v (.bool false))), []⟩]
def c5_1 : ACode := .ops [
    ⟨(some 3), none, .q (.mv (.v (.sl .full []))), []⟩,
    ⟨(some 4), none, .q (.mv (.v (.sl .full []))), []⟩]
def c5_2 : ACode := .ops [
    ⟨(some 8), none, .q (.mv (.t 0)), []⟩,
    ⟨(some 9), none, .q (.len (.t 8)), []⟩,
    ⟨(some 10), none, .q (.mnx false (.t 9) (.v (.int .i64 12))), []⟩,
    ⟨(some 5), none, .q (.mv (.t 10)), []⟩]
def c5_3 : ACode := .ops [
    ⟨(some 6), none, .q (.mv (.v (.int .i64 0))), []⟩]
def c5_4 : ACode := .ops [
    ⟨(some 11), none, .q (.mv (.t 6)), []⟩,
    ⟨(some 12), none, .q (.mv (.t 5)), []⟩,
    ⟨(some 13), none, .q (.bin .lss (.t 11) (.t 12)), []⟩]
def c5_5 : ACode := .cond (.t 13) .skip (.exit 0)
def c5_6 : ACode := .seq c5_4 c5_5
def c5_7 : ACode := .ops [
    ⟨(some 16), none, .q (.mv (.t 3)), []⟩,
    ⟨(some 17), none, .q (.mv (.t 0)), []⟩,
    ⟨(some 18), none, .q (.mv (.t 6)), []⟩,
    ⟨(some 19), none, .q (.ia 2 (.t 17) (.t 18)), []⟩,
    ⟨(some 20), none, .q (.ld (some 2) (.t 19)), []⟩,
    ⟨(some 21), none, .e (.call 19 [(.t 16), (.t 20)]), []⟩,
    ⟨(some 3), none, .q (.mv (.t 21)), []⟩]
def c5_8 : ACode := .ops [
    ⟨(some 22), none, .q (.mv (.t 4)), []⟩,
    ⟨(some 23), none, .q (.mv (.t 0)), []⟩,
    ⟨(some 24), none, .q (.mv (.t 5)), []⟩,
    ⟨(some 25), none, .q (.bin .sub (.t 24) (.v (.int .i64 1))), []⟩,
    ⟨(some 26), none, .q (.mv (.t 6)), []⟩,
    ⟨(some 27), none, .q (.bin .sub (.t 25) (.t 26)), []⟩,
    ⟨(some 28), none, .q (.ia 2 (.t 23) (.t 27)), []⟩,
    ⟨(some 29), none, .q (.ld (some 2) (.t 28)), []⟩,
    ⟨(some 30), none, .e (.call 19 [(.t 22), (.t 29)]), []⟩,
    ⟨(some 4), none, .q (.mv (.t 30)), []⟩]
def c5_9 : ACode := .seq c5_7 c5_8
def c5_10 : ACode := .block 1 c5_9
def c5_11 : ACode := .ops [
    ⟨(some 14), none, .q (.mv (.t 6)), []⟩,
    ⟨(some 15), none, .q (.bin .add (.t 14) (.v (.int .i64 1))), []⟩,
    ⟨(some 6), none, .q (.mv (.t 15)), []⟩]
def c5_12 : ACode := .seq c5_10 c5_11
def c5_13 : ACode := .seq c5_6 c5_12
def c5_14 : ACode := .loop c5_13
def c5_15 : ACode := .block 0 c5_14
def c5_16 : ACode := .seq c5_3 c5_15
def c5_17 : ACode := .ops [
    ⟨(some 31), none, .q (.mv (.t 3)), []⟩,
    ⟨(some 32), none, .q (.len (.t 31)), []⟩,
    ⟨(some 33), none, .q (.mv (.t 4)), []⟩,
    ⟨(some 34), none, .q (.len (.t 33)), []⟩,
    ⟨(some 35), none, .q (.bin .neq (.t 32) (.t 34)), []⟩]
def c5_18 : ACode := .ops [
    ⟨(some 2), none, .q (.mv (.v (.bool false))), []⟩]
def c5_19 : ACode := .seq c5_18 .ret
def c5_20 : ACode := .cond (.t 35) c5_19 .skip
def c5_21 : ACode := .seq c5_17 c5_20
def c5_22 : ACode := .ops [
    ⟨(some 36), none, .q (.mv (.t 3)), []⟩,
    ⟨(some 37), none, .q (.len (.t 36)), []⟩,
    ⟨(some 38), none, .q (.mv (.v (.int .i64 0))), []⟩]
def c5_23 : ACode := .ops [
    ⟨(some 39), none, .q (.bin .lss (.t 38) (.t 37)), []⟩]
def c5_24 : ACode := .cond (.t 39) .skip (.exit 2)
def c5_25 : ACode := .ops [
    ⟨(some 40), none, .q (.mv (.t 38)), []⟩,
    ⟨(some 7), none, .q (.mv (.t 40)), []⟩]
def c5_26 : ACode := .ops [
    ⟨(some 41), none, .q (.mv (.t 3)), []⟩,
    ⟨(some 42), none, .q (.mv (.t 7)), []⟩,
    ⟨(some 43), none, .q (.ia 2 (.t 41) (.t 42)), []⟩,
    ⟨(some 44), none, .q (.ld (some 2) (.t 43)), []⟩,
    ⟨(some 45), none, .q (.mv (.t 4)), []⟩,
    ⟨(some 46), none, .q (.mv (.t 7)), []⟩,
    ⟨(some 47), none, .q (.ia 2 (.t 45) (.t 46)), []⟩,
    ⟨(some 48), none, .q (.ld (some 2) (.t 47)), []⟩,
    ⟨(some 49), none, .q (.eqs true [(0, 0), (1, 0)] (.t 44) (.t 48)), []⟩]
def c5_27 : ACode := .ops [
    ⟨(some 2), none, .q (.mv (.v (.bool false))), []⟩]
def c5_28 : ACode := .seq c5_27 .ret
def c5_29 : ACode := .cond (.t 49) c5_28 .skip
def c5_30 : ACode := .seq c5_26 c5_29
def c5_31 : ACode := .seq c5_25 c5_30
def c5_32 : ACode := .block 3 c5_31
def c5_33 : ACode := .ops [
    ⟨(some 50), none, .q (.bin .add (.t 38) (.v (.int .i64 1))), []⟩,
    ⟨(some 38), none, .q (.mv (.t 50)), []⟩]
def c5_34 : ACode := .seq c5_32 c5_33
def c5_35 : ACode := .seq c5_24 c5_34
def c5_36 : ACode := .seq c5_23 c5_35
def c5_37 : ACode := .loop c5_36
def c5_38 : ACode := .block 2 c5_37
def c5_39 : ACode := .seq c5_22 c5_38
def c5_40 : ACode := .ops [
    ⟨(some 51), none, .e (.call 11 []), []⟩,
    ⟨(some 2), none, .q (.mv (.t 51)), []⟩]
def c5_41 : ACode := .seq c5_40 .ret
def c5_42 : ACode := .seq c5_39 c5_41
def c5_43 : ACode := .seq c5_21 c5_42
def c5_44 : ACode := .seq c5_16 c5_43
def c5_45 : ACode := .seq c5_2 c5_44
def c5_46 : ACode := .seq c5_1 c5_45
def c5_47 : ACode := .seq c5_0 c5_46
@[go_sem] theorem c5_0_wp (P : Program) (Q : APost) (a : AFr) (σ : ASt) : c5_0.wp P Q a σ = ACode.wp P (.ops [
    ⟨(some 2), none, .q (.mv (.v (.bool false))), []⟩]) Q a σ := id rfl
@[go_sem] theorem c5_1_wp (P : Program) (Q : APost) (a : AFr) (σ : ASt) : c5_1.wp P Q a σ = ACode.wp P (.ops [
    ⟨(some 3), none, .q (.mv (.v (.sl .full []))), []⟩,
    ⟨(some 4), none, .q (.mv (.v (.sl .full []))), []⟩]) Q a σ := id rfl
@[go_sem] theorem c5_2_wp (P : Program) (Q : APost) (a : AFr) (σ : ASt) : c5_2.wp P Q a σ = ACode.wp P (.ops [
    ⟨(some 8), none, .q (.mv (.t 0)), []⟩,
    ⟨(some 9), none, .q (.len (.t 8)), []⟩,
    ⟨(some 10), none, .q (.mnx false (.t 9) (.v (.int .i64 12))), []⟩,
    ⟨(some 5), none, .q (.mv (.t 10)), []⟩]) Q a σ := id rfl
@[go_sem] theorem c5_3_wp (P : Program) (Q : APost) (a : AFr) (σ : ASt) : c5_3.wp P Q a σ = ACode.wp P (.ops [
    ⟨(some 6), none, .q (.mv (.v (.int .i64 0))), []⟩]) Q a σ := id rfl
@[go_sem] theorem c5_4_wp (P : Program) (Q : APost) (a : AFr) (σ : ASt) : c5_4.wp P Q a σ = ACode.wp P (.ops [
    ⟨(some 11), none, .q (.mv (.t 6)), []⟩,
    ⟨(some 12), none, .q (.mv (.t 5)), []⟩,
    ⟨(some 13), none, .q (.bin .lss (.t 11) (.t 12)), []⟩]) Q a σ := id rfl
@[go_sem] theorem c5_5_wp (P : Program) (Q : APost) (a : AFr) (σ : ASt) : c5_5.wp P Q a σ = ACode.wp P (.cond (.t 13) .skip (.exit 0)) Q a σ := id rfl
@[go_sem] theorem c5_6_wp (P : Program) (Q : APost) (a : AFr) (σ : ASt) : c5_6.wp P Q a σ = ACode.wp P (.seq c5_4 c5_5) Q a σ := id rfl
@[go_sem] theorem c5_7_wp (P : Program) (Q : APost) (a : AFr) (σ : ASt) : c5_7.wp P Q a σ = ACode.wp P (.ops [
    ⟨(some 16), none, .q (.mv (.t 3)), []⟩,
    ⟨(some 17), none, .q (.mv (.t 0)), []⟩,
    ⟨(some 18), none, .q (.mv (.t 6)), []⟩,
    ⟨(some 19), none, .q (.ia 2 (.t 17) (.t 18)), []⟩,
    ⟨(some 20), none, .q (.ld (some 2) (.t 19)), []⟩,
    ⟨(some 21), none, .e (.call 19 [(.t 16), (.t 20)]), []⟩,
    ⟨(some 3), none, .q (.mv (.t 21)), []⟩]) Q a σ := id rfl
@[go_sem] theorem c5_8_wp (P : Program) (Q : APost) (a : AFr) (σ : ASt) : c5_8.wp P Q a σ = ACode.wp P (.ops [
    ⟨(some 22), none, .q (.mv (.t 4)), []⟩,
    ⟨(some 23), none, .q (.mv (.t 0)), []⟩,
    ⟨(some 24), none, .q (.mv (.t 5)), []⟩,
    ⟨(some 25), none, .q (.bin .sub (.t 24) (.v (.int .i64 1))), []⟩,
    ⟨(some 26), none, .q (.mv (.t 6)), []⟩,
    ⟨(some 27), none, .q (.bin .sub (.t 25) (.t 26)), []⟩,
    ⟨(some 28), none, .q (.ia 2 (.t 23) (.t 27)), []⟩,
    ⟨(some 29), none, .q (.ld (some 2) (.t 28)), []⟩,
    ⟨(some 30), none, .e (.call 19 [(.t 22), (.t 29)]), []⟩,
    ⟨(some 4), none, .q (.mv (.t 30)), []⟩]) Q a σ := id rfl
@[go_sem] theorem c5_9_wp (P : Program) (Q : APost) (a : AFr) (σ : ASt) : c5_9.wp P Q a σ = ACode.wp P (.seq c5_7 c5_8) Q a σ := id rfl
@[go_sem] theorem c5_10_wp (P : Program) (Q : APost) (a : AFr) (σ : ASt) : c5_10.wp P Q a σ = ACode.wp P (.block 1 c5_9) Q a σ := id rfl
@[go_sem] theorem c5_11_wp (P : Program) (Q : APost) (a : AFr) (σ : ASt) : c5_11.wp P Q a σ = ACode.wp P (.ops [
    ⟨(some 14), none, .q (.mv (.t 6)), []⟩,
    ⟨(some 15), none, .q (.bin .add (.t 14) (.v (.int .i64 1))), []⟩,
    ⟨(some 6), none, .q (.mv (.t 15)), []⟩]) Q a σ := id rfl
@[go_sem] theorem c5_12_wp (P : Program) (Q : APost) (a : AFr) (σ : ASt) : c5_12.wp P Q a σ = ACode.wp P (.seq c5_10 c5_11) Q a σ := id rfl
@[go_sem] theorem c5_13_wp (P : Program) (Q : APost) (a : AFr) (σ : ASt) : c5_13.wp P Q a σ = ACode.wp P (.seq c5_6 c5_12) Q a σ := id rfl
@[go_sem] theorem c5_14_wp (P : Program) (Q : APost) (a : AFr) (σ : ASt) : c5_14.wp P Q a σ = ACode.wp P (.loop c5_13) Q a σ := id rfl
@[go_sem] theorem c5_15_wp (P : Program) (Q : APost) (a : AFr) (σ : ASt) : c5_15.wp P Q a σ = ACode.wp P (.block 0 c5_14) Q a σ := id rfl
@[go_sem] theorem c5_16_wp (P : Program) (Q : APost) (a : AFr) (σ : ASt) : c5_16.wp P Q a σ = ACode.wp P (.seq c5_3 c5_15) Q a σ := id rfl
@[go_sem] theorem c5_17_wp (P : Program) (Q : APost) (a : AFr) (σ : ASt) : c5_17.wp P Q a σ = ACode.wp P (.ops [
    ⟨(some 31), none, .q (.mv (.t 3)), []⟩,
    ⟨(some 32), none, .q (.len (.t 31)), []⟩,
    ⟨(some 33), none, .q (.mv (.t 4)), []⟩,
    ⟨(some 34), none, .q (.len (.t 33)), []⟩,
    ⟨(some 35), none, .q (.bin .neq (.t 32) (.t 34)), []⟩]) Q a σ := id rfl
@[go_sem] theorem c5_18_wp (P : Program) (Q : APost) (a : AFr) (σ : ASt) : c5_18.wp P Q a σ = ACode.wp P (.ops [
    ⟨(some 2), none, .q (.mv (.v (.bool false))), []⟩]) Q a σ := id rfl
@[go_sem] theorem c5_19_wp (P : Program) (Q : APost) (a : AFr) (σ : ASt) : c5_19.wp P Q a σ = ACode.wp P (.seq c5_18 .ret) Q a σ := id rfl
@[go_sem] theorem c5_20_wp (P : Program) (Q : APost) (a : AFr) (σ : ASt) : c5_20.wp P Q a σ = ACode.wp P (.cond (.t 35) c5_19 .skip) Q a σ := id rfl
@[go_sem] theorem c5_21_wp (P : Program) (Q : APost) (a : AFr) (σ : ASt) : c5_21.wp P Q a σ = ACode.wp P (.seq c5_17 c5_20) Q a σ := id rfl
@[go_sem] theorem c5_22_wp (P : Program) (Q : APost) (a : AFr) (σ : ASt) : c5_22.wp P Q a σ = ACode.wp P (.ops [
    ⟨(some 36), none, .q (.mv (.t 3)), []⟩,
    ⟨(some 37), none, .q (.len (.t 36)), []⟩,
    ⟨(some 38), none, .q (.mv (.v (.int .i64 0))), []⟩]) Q a σ := id rfl
@[go_sem] theorem c5_23_wp (P : Program) (Q : APost) (a : AFr) (σ : ASt) : c5_23.wp P Q a σ = ACode.wp P (.ops [
    ⟨(some 39), none, .q (.bin .lss (.t 38) (.t 37)), []⟩]) Q a σ := id rfl
@[go_sem] theorem c5_24_wp (P : Program) (Q : APost) (a : AFr) (σ : ASt) : c5_24.wp P Q a σ = ACode.wp P (.cond (.t 39) .skip (.exit 2)) Q a σ := id rfl
@[go_sem] theorem c5_25_wp (P : Program) (Q : APost) (a : AFr) (σ : ASt) : c5_25.wp P Q a σ = ACode.wp P (.ops [
    ⟨(some 40), none, .q (.mv (.t 38)), []⟩,
    ⟨(some 7), none, .q (.mv (.t 40)), []⟩]) Q a σ := id rfl
@[go_sem] theorem c5_26_wp (P : Program) (Q : APost) (a : AFr) (σ : ASt) : c5_26.wp P Q a σ = ACode.wp P (.ops [
    ⟨(some 41), none, .q (.mv (.t 3)), []⟩,
    ⟨(some 42), none, .q (.mv (.t 7)), []⟩,
    ⟨(some 43), none, .q (.ia 2 (.t 41) (.t 42)), []⟩,
    ⟨(some 44), none, .q (.ld (some 2) (.t 43)), []⟩,
    ⟨(some 45), none, .q (.mv (.t 4)), []⟩,
    ⟨(some 46), none, .q (.mv (.t 7)), []⟩,
    ⟨(some 47), none, .q (.ia 2 (.t 45) (.t 46)), []⟩,
    ⟨(some 48), none, .q (.ld (some 2) (.t 47)), []⟩,
    ⟨(some 49), none, .q (.eqs true [(0, 0), (1, 0)] (.t 44) (.t 48)), []⟩]) Q a σ := id rfl
@[go_sem] theorem c5_27_wp (P : Program) (Q : APost) (a : AFr) (σ : ASt) : c5_27.wp P Q a σ = ACode.wp P (.ops [
    ⟨(some 2), none, .q (.mv (.v (.bool false))), []⟩]) Q a σ := id rfl
@[go_sem] theorem c5_28_wp (P : Program) (Q : APost) (a : AFr) (σ : ASt) : c5_28.wp P Q a σ = ACode.wp P (.seq c5_27 .ret) Q a σ := id rfl
@[go_sem] theorem c5_29_wp (P : Program) (Q : APost) (a : AFr) (σ : ASt) : c5_29.wp P Q a σ = ACode.wp P (.cond (.t 49) c5_28 .skip) Q a σ := id rfl
@[go_sem] theorem c5_30_wp (P : Program) (Q : APost) (a : AFr) (σ : ASt) : c5_30.wp P Q a σ = ACode.wp P (.seq c5_26 c5_29) Q a σ := id rfl
@[go_sem] theorem c5_31_wp (P : Program) (Q : APost) (a : AFr) (σ : ASt) : c5_31.wp P Q a σ = ACode.wp P (.seq c5_25 c5_30) Q a σ := id rfl
@[go_sem] theorem c5_32_wp (P : Program) (Q : APost) (a : AFr) (σ : ASt) : c5_32.wp P Q a σ = ACode.wp P (.block 3 c5_31) Q a σ := id rfl
@[go_sem] theorem c5_33_wp (P : Program) (Q : APost) (a : AFr) (σ : ASt) : c5_33.wp P Q a σ = ACode.wp P (.ops [
    ⟨(some 50), none, .q (.bin .add (.t 38) (.v (.int .i64 1))), []⟩,
    ⟨(some 38), none, .q (.mv (.t 50)), []⟩]) Q a σ := id rfl
@[go_sem] theorem c5_34_wp (P : Program) (Q : APost) (a : AFr) (σ : ASt) : c5_34.wp P Q a σ = ACode.wp P (.seq c5_32 c5_33) Q a σ := id rfl
@[go_sem] theorem c5_35_wp (P : Program) (Q : APost) (a : AFr) (σ : ASt) : c5_35.wp P Q a σ = ACode.wp P (.seq c5_24 c5_34) Q a σ := id rfl
@[go_sem] theorem c5_36_wp (P : Program) (Q : APost) (a : AFr) (σ : ASt) : c5_36.wp P Q a σ = ACode.wp P (.seq c5_23 c5_35) Q a σ := id rfl
@[go_sem] theorem c5_37_wp (P : Program) (Q : APost) (a : AFr) (σ : ASt) : c5_37.wp P Q a σ = ACode.wp P (.loop c5_36) Q a σ := id rfl
@[go_sem] theorem c5_38_wp (P : Program) (Q : APost) (a : AFr) (σ : ASt) : c5_38.wp P Q a σ = ACode.wp P (.block 2 c5_37) Q a σ := id rfl
@[go_sem] theorem c5_39_wp (P : Program) (Q : APost) (a : AFr) (σ : ASt) : c5_39.wp P Q a σ = ACode.wp P (.seq c5_22 c5_38) Q a σ := id rfl
@[go_sem] theorem c5_40_wp (P : Program) (Q : APost) (a : AFr) (σ : ASt) : c5_40.wp P Q a σ = ACode.wp P (.ops [
    ⟨(some 51), none, .e (.call 11 []), []⟩,
    ⟨(some 2), none, .q (.mv (.t 51)), []⟩]) Q a σ := id rfl
@[go_sem] theorem c5_41_wp (P : Program) (Q : APost) (a : AFr) (σ : ASt) : c5_41.wp P Q a σ = ACode.wp P (.seq c5_40 .ret) Q a σ := id rfl
@[go_sem] theorem c5_42_wp (P : Program) (Q : APost) (a : AFr) (σ : ASt) : c5_42.wp P Q a σ = ACode.wp P (.seq c5_39 c5_41) Q a σ := id rfl
@[go_sem] theorem c5_43_wp (P : Program) (Q : APost) (a : AFr) (σ : ASt) : c5_43.wp P Q a σ = ACode.wp P (.seq c5_21 c5_42) Q a σ := id rfl
@[go_sem] theorem c5_44_wp (P : Program) (Q : APost) (a : AFr) (σ : ASt) : c5_44.wp P Q a σ = ACode.wp P (.seq c5_16 c5_43) Q a σ := id rfl
@[go_sem] theorem c5_45_wp (P : Program) (Q : APost) (a : AFr) (σ : ASt) : c5_45.wp P Q a σ = ACode.wp P (.seq c5_2 c5_44) Q a σ := id rfl
@[go_sem] theorem c5_46_wp (P : Program) (Q : APost) (a : AFr) (σ : ASt) : c5_46.wp P Q a σ = ACode.wp P (.seq c5_1 c5_45) Q a σ := id rfl
@[go_sem] theorem c5_47_wp (P : Program) (Q : APost) (a : AFr) (σ : ASt) : c5_47.wp P Q a σ = ACode.wp P (.seq c5_0 c5_46) Q a σ := id rfl
def c5 : AFn := ⟨52, [.t 2], c5_47⟩
set_option maxRecDepth 100000 in
theorem c5_ok : compF Try.prog Try.f5 = some c5 := by kernel_rfl
theorem a5 {args : List AV} {σ : ASt} {R : AV → ASt → Prop} (hl : args.length ≤ 52) (h : c5_47.wp Try.prog (RetQ [.t 2] R) (init args) σ) : ACalls Try.prog 5 args σ R := acalls_of Try.func5 c5_ok hl h

/-! 11: tabular/tabularlaw02.awake -/
def c11_0 : ACode := .ops [
    ⟨(some 0), none, .q (.mv (.v (.bool false))), []⟩]
def c11_1 : ACode := .ops [
    ⟨(some 1), none, .e (.alloc [(.sl .full [])]), []⟩]
def c11_2 : ACode := .ops [
    ⟨(some 3), none, .e (.call 40 [(.t 1), (.v (.int .u64 300))]), []⟩]
def c11_3 : ACode := .ops [
    ⟨(some 4), none, .e (.call 41 [(.t 1), (.v (.int .i64 (-1)))]), []⟩]
def c11_4 : ACode := .ops [
    ⟨(some 5), none, .q (.bsl 1 [(.v (.int .u64 5)), (.v (.int .u64 6)), (.v (.int .u64 9))]), []⟩,
    ⟨(some 6), none, .e (.call 45 [(.t 1), (.t 5)]), []⟩]
def c11_5 : ACode := .ops [
    ⟨(some 7), none, .q (.build [(.int .u64 0), (.int .u64 0)] [(0, 1, (.v (.int .u64 2))), (1, 1, (.v (.int .u64 5)))]), []⟩,
    ⟨(some 8), none, .q (.build [(.int .u64 0), (.int .u64 0)] [(0, 1, (.v (.int .u64 7))), (1, 1, (.v (.int .u64 8)))]), []⟩,
    ⟨(some 9), none, .q (.bsl 2 [(.t 7), (.t 8)]), []⟩,
    ⟨(some 10), none, .e (.call 46 [(.t 1), (.t 9)]), []⟩]
def c11_6 : ACode := .ops [
    ⟨(some 11), none, .e (.call 27 [(.v (.str [128, 0]))]), []⟩,
    ⟨(some 2), none, .q (.mv (.t 11)), []⟩]
def c11_7 : ACode := .ops [
    ⟨(some 12), none, .q (.mv (.t 2)), []⟩,
    ⟨(some 13), none, .q (.eq .p false (.t 12) (.v .nilp)), []⟩]
def c11_8 : ACode := .ops [
    ⟨(some 0), none, .q (.mv (.v (.bool false))), []⟩]
def c11_9 : ACode := .seq c11_8 .ret
def c11_10 : ACode := .cond (.t 13) c11_9 .skip
def c11_11 : ACode := .seq c11_7 c11_10
def c11_12 : ACode := .ops [
    ⟨(some 14), none, .q (.mv (.t 2)), []⟩,
    ⟨(some 15), none, .e (.call 28 [(.t 14)]), []⟩]
def c11_13 : ACode := .ops [
    ⟨(some 16), none, .e (.call 12 [(.t 1)]), []⟩,
    ⟨(some 17), none, .q (.bin .eql (.t 16) (.v (.str [172, 2, 1, 3, 5, 0, 2, 2, 2, 2, 1, 0]))), []⟩,
    ⟨(some 18), none, .q (.mv (.t 17)), []⟩,
    ⟨(some 19), (some (18, true)), .q (.mv (.t 2)), []⟩,
    ⟨(some 20), (some (18, true)), .e (.call 37 [(.t 19)]), []⟩,
    ⟨(some 21), (some (18, true)), .q (.bin .eql (.t 20) (.v (.int .i64 3))), []⟩,
    ⟨(some 22), none, .q (.pick (.t 18) (.t 21) (.v (.bool false))), []⟩,
    ⟨(some 23), none, .q (.mv (.t 22)), []⟩,
    ⟨(some 24), (some (23, true)), .q (.mv (.t 2)), []⟩,
    ⟨(some 25), (some (23, true)), .e (.call 47 [(.t 24)]), []⟩,
    ⟨(some 26), (some (23, true)), .q (.bin .eql (.t 25) (.v (.int .i64 0))), []⟩,
    ⟨(some 27), none, .q (.pick (.t 23) (.t 26) (.v (.bool false))), []⟩,
    ⟨(some 0), none, .q (.mv (.t 27)), []⟩]
def c11_14 : ACode := .seq c11_13 .ret
def c11_15 : ACode := .seq c11_12 c11_14
def c11_16 : ACode := .seq c11_11 c11_15
def c11_17 : ACode := .seq c11_6 c11_16
def c11_18 : ACode := .seq c11_5 c11_17
def c11_19 : ACode := .seq c11_4 c11_18
def c11_20 : ACode := .seq c11_3 c11_19
def c11_21 : ACode := .seq c11_2 c11_20
def c11_22 : ACode := .seq c11_1 c11_21
def c11_23 : ACode := .seq c11_0 c11_22
@[go_sem] theorem c11_0_wp (P : Program) (Q : APost) (a : AFr) (σ : ASt) : c11_0.wp P Q a σ = ACode.wp P (.ops [
    ⟨(some 0), none, .q (.mv (.v (.bool false))), []⟩]) Q a σ := id rfl
@[go_sem] theorem c11_1_wp (P : Program) (Q : APost) (a : AFr) (σ : ASt) : c11_1.wp P Q a σ = ACode.wp P (.ops [
    ⟨(some 1), none, .e (.alloc [(.sl .full [])]), []⟩]) Q a σ := id rfl
@[go_sem] theorem c11_2_wp (P : Program) (Q : APost) (a : AFr) (σ : ASt) : c11_2.wp P Q a σ = ACode.wp P (.ops [
    ⟨(some 3), none, .e (.call 40 [(.t 1), (.v (.int .u64 300))]), []⟩]) Q a σ := id rfl
@[go_sem] theorem c11_3_wp (P : Program) (Q : APost) (a : AFr) (σ : ASt) : c11_3.wp P Q a σ = ACode.wp P (.ops [
    ⟨(some 4), none, .e (.call 41 [(.t 1), (.v (.int .i64 (-1)))]), []⟩]) Q a σ := id rfl
@[go_sem] theorem c11_4_wp (P : Program) (Q : APost) (a : AFr) (σ : ASt) : c11_4.wp P Q a σ = ACode.wp P (.ops [
    ⟨(some 5), none, .q (.bsl 1 [(.v (.int .u64 5)), (.v (.int .u64 6)), (.v (.int .u64 9))]), []⟩,
    ⟨(some 6), none, .e (.call 45 [(.t 1), (.t 5)]), []⟩]) Q a σ := id rfl
@[go_sem] theorem c11_5_wp (P : Program) (Q : APost) (a : AFr) (σ : ASt) : c11_5.wp P Q a σ = ACode.wp P (.ops [
    ⟨(some 7), none, .q (.build [(.int .u64 0), (.int .u64 0)] [(0, 1, (.v (.int .u64 2))), (1, 1, (.v (.int .u64 5)))]), []⟩,
    ⟨(some 8), none, .q (.build [(.int .u64 0), (.int .u64 0)] [(0, 1, (.v (.int .u64 7))), (1, 1, (.v (.int .u64 8)))]), []⟩,
    ⟨(some 9), none, .q (.bsl 2 [(.t 7), (.t 8)]), []⟩,
    ⟨(some 10), none, .e (.call 46 [(.t 1), (.t 9)]), []⟩]) Q a σ := id rfl
@[go_sem] theorem c11_6_wp (P : Program) (Q : APost) (a : AFr) (σ : ASt) : c11_6.wp P Q a σ = ACode.wp P (.ops [
    ⟨(some 11), none, .e (.call 27 [(.v (.str [128, 0]))]), []⟩,
    ⟨(some 2), none, .q (.mv (.t 11)), []⟩]) Q a σ := id rfl
@[go_sem] theorem c11_7_wp (P : Program) (Q : APost) (a : AFr) (σ : ASt) : c11_7.wp P Q a σ = ACode.wp P (.ops [
    ⟨(some 12), none, .q (.mv (.t 2)), []⟩,
    ⟨(some 13), none, .q (.eq .p false (.t 12) (.v .nilp)), []⟩]) Q a σ := id rfl
@[go_sem] theorem c11_8_wp (P : Program) (Q : APost) (a : AFr) (σ : ASt) : c11_8.wp P Q a σ = ACode.wp P (.ops [
    ⟨(some 0), none, .q (.mv (.v (.bool false))), []⟩]) Q a σ := id rfl
@[go_sem] theorem c11_9_wp (P : Program) (Q : APost) (a : AFr) (σ : ASt) : c11_9.wp P Q a σ = ACode.wp P (.seq c11_8 .ret) Q a σ := id rfl
@[go_sem] theorem c11_10_wp (P : Program) (Q : APost) (a : AFr) (σ : ASt) : c11_10.wp P Q a σ = ACode.wp P (.cond (.t 13) c11_9 .skip) Q a σ := id rfl
@[go_sem] theorem c11_11_wp (P : Program) (Q : APost) (a : AFr) (σ : ASt) : c11_11.wp P Q a σ = ACode.wp P (.seq c11_7 c11_10) Q a σ := id rfl
@[go_sem] theorem c11_12_wp (P : Program) (Q : APost) (a : AFr) (σ : ASt) : c11_12.wp P Q a σ = ACode.wp P (.ops [
    ⟨(some 14), none, .q (.mv (.t 2)), []⟩,
    ⟨(some 15), none, .e (.call 28 [(.t 14)]), []⟩]) Q a σ := id rfl
@[go_sem] theorem c11_13_wp (P : Program) (Q : APost) (a : AFr) (σ : ASt) : c11_13.wp P Q a σ = ACode.wp P (.ops [
    ⟨(some 16), none, .e (.call 12 [(.t 1)]), []⟩,
    ⟨(some 17), none, .q (.bin .eql (.t 16) (.v (.str [172, 2, 1, 3, 5, 0, 2, 2, 2, 2, 1, 0]))), []⟩,
    ⟨(some 18), none, .q (.mv (.t 17)), []⟩,
    ⟨(some 19), (some (18, true)), .q (.mv (.t 2)), []⟩,
    ⟨(some 20), (some (18, true)), .e (.call 37 [(.t 19)]), []⟩,
    ⟨(some 21), (some (18, true)), .q (.bin .eql (.t 20) (.v (.int .i64 3))), []⟩,
    ⟨(some 22), none, .q (.pick (.t 18) (.t 21) (.v (.bool false))), []⟩,
    ⟨(some 23), none, .q (.mv (.t 22)), []⟩,
    ⟨(some 24), (some (23, true)), .q (.mv (.t 2)), []⟩,
    ⟨(some 25), (some (23, true)), .e (.call 47 [(.t 24)]), []⟩,
    ⟨(some 26), (some (23, true)), .q (.bin .eql (.t 25) (.v (.int .i64 0))), []⟩,
    ⟨(some 27), none, .q (.pick (.t 23) (.t 26) (.v (.bool false))), []⟩,
    ⟨(some 0), none, .q (.mv (.t 27)), []⟩]) Q a σ := id rfl
@[go_sem] theorem c11_14_wp (P : Program) (Q : APost) (a : AFr) (σ : ASt) : c11_14.wp P Q a σ = ACode.wp P (.seq c11_13 .ret) Q a σ := id rfl
@[go_sem] theorem c11_15_wp (P : Program) (Q : APost) (a : AFr) (σ : ASt) : c11_15.wp P Q a σ = ACode.wp P (.seq c11_12 c11_14) Q a σ := id rfl
@[go_sem] theorem c11_16_wp (P : Program) (Q : APost) (a : AFr) (σ : ASt) : c11_16.wp P Q a σ = ACode.wp P (.seq c11_11 c11_15) Q a σ := id rfl
@[go_sem] theorem c11_17_wp (P : Program) (Q : APost) (a : AFr) (σ : ASt) : c11_17.wp P Q a σ = ACode.wp P (.seq c11_6 c11_16) Q a σ := id rfl
@[go_sem] theorem c11_18_wp (P : Program) (Q : APost) (a : AFr) (σ : ASt) : c11_18.wp P Q a σ = ACode.wp P (.seq c11_5 c11_17) Q a σ := id rfl
@[go_sem] theorem c11_19_wp (P : Program) (Q : APost) (a : AFr) (σ : ASt) : c11_19.wp P Q a σ = ACode.wp P (.seq c11_4 c11_18) Q a σ := id rfl
@[go_sem] theorem c11_20_wp (P : Program) (Q : APost) (a : AFr) (σ : ASt) : c11_20.wp P Q a σ = ACode.wp P (.seq c11_3 c11_19) Q a σ := id rfl
@[go_sem] theorem c11_21_wp (P : Program) (Q : APost) (a : AFr) (σ : ASt) : c11_21.wp P Q a σ = ACode.wp P (.seq c11_2 c11_20) Q a σ := id rfl
@[go_sem] theorem c11_22_wp (P : Program) (Q : APost) (a : AFr) (σ : ASt) : c11_22.wp P Q a σ = ACode.wp P (.seq c11_1 c11_21) Q a σ := id rfl
@[go_sem] theorem c11_23_wp (P : Program) (Q : APost) (a : AFr) (σ : ASt) : c11_23.wp P Q a σ = ACode.wp P (.seq c11_0 c11_22) Q a σ := id rfl
def c11 : AFn := ⟨28, [.t 0], c11_23⟩
set_option maxRecDepth 100000 in
theorem c11_ok : compF Try.prog Try.f11 = some c11 := by kernel_rfl
theorem a11 {args : List AV} {σ : ASt} {R : AV → ASt → Prop} (hl : args.length ≤ 28) (h : c11_23.wp Try.prog (RetQ [.t 0] R) (init args) σ) : ACalls Try.prog 11 args σ R := acalls_of Try.func11 c11_ok hl h

/-! 12: (*tabular/vint.Writer).Bytes -/
def c12_0 : ACode := .ops [
    ⟨(some 2), none, .q (.mv (.v (.str []))), []⟩]
def c12_1 : ACode := .ops [
    ⟨(some 3), none, .q (.mv (.t 0)), []⟩,
    ⟨(some 4), none, .q (.nc (.t 3)), []⟩,
    ⟨(some 5), none, .q (.fa 0 (.t 4)), []⟩,
    ⟨(some 6), none, .q (.ld none (.t 5)), []⟩,
    ⟨(some 7), none, .q (.b2s (.t 6)), []⟩,
    ⟨(some 2), none, .q (.mv (.t 7)), []⟩]
def c12_2 : ACode := .seq c12_1 .ret
def c12_3 : ACode := .seq c12_0 c12_2
@[go_sem] theorem c12_0_wp (P : Program) (Q : APost) (a : AFr) (σ : ASt) : c12_0.wp P Q a σ = ACode.wp P (.ops [
    ⟨(some 2), none, .q (.mv (.v (.str []))), []⟩]) Q a σ := id rfl
@[go_sem] theorem c12_1_wp (P : Program) (Q : APost) (a : AFr) (σ : ASt) : c12_1.wp P Q a σ = ACode.wp P (.ops [
    ⟨(some 3), none, .q (.mv (.t 0)), []⟩,
    ⟨(some 4), none, .q (.nc (.t 3)), []⟩,
    ⟨(some 5), none, .q (.fa 0 (.t 4)), []⟩,
    ⟨(some 6), none, .q (.ld none (.t 5)), []⟩,
    ⟨(some 7), none, .q (.b2s (.t 6)), []⟩,
    ⟨(some 2), none, .q (.mv (.t 7)), []⟩]) Q a σ := id rfl
@[go_sem] theorem c12_2_wp (P : Program) (Q : APost) (a : AFr) (σ : ASt) : c12_2.wp P Q a σ = ACode.wp P (.seq c12_1 .ret) Q a σ := id rfl
@[go_sem] theorem c12_3_wp (P : Program) (Q : APost) (a : AFr) (σ : ASt) : c12_3.wp P Q a σ = ACode.wp P (.seq c12_0 c12_2) Q a σ := id rfl
def c12 : AFn := ⟨8, [.t 2], c12_3⟩
set_option maxRecDepth 100000 in
theorem c12_ok : compF Try.prog Try.f12 = some c12 := by kernel_rfl
theorem a12 {args : List AV} {σ : ASt} {R : AV → ASt → Prop} (hl : args.length ≤ 8) (h : c12_3.wp Try.prog (RetQ [.t 2] R) (init args) σ) : ACalls Try.prog 12 args σ R := acalls_of Try.func12 c12_ok hl h

/-! 19: tabular/vint.With -/
def c19_0 : ACode := .ops [
    ⟨(some 3), none, .e (.box (.t 1)), []⟩,
    ⟨(some 4), none, .q (.mv (.v (.sl .full []))), []⟩]
def c19_1 : ACode := .ops [
    ⟨(some 7), none, .q (.fa 0 (.t 3)), []⟩,
    ⟨(some 8), none, .q (.ld none (.t 7)), []⟩,
    ⟨(some 9), none, .q (.fa 1 (.t 3)), []⟩,
    ⟨(some 10), none, .q (.ld none (.t 9)), []⟩,
    ⟨(some 11), none, .q (.bin .geq (.t 8) (.t 10)), []⟩]
def c19_2 : ACode := .ops [
    ⟨(some 12), none, .q (.bsl 2 []), []⟩,
    ⟨(some 13), none, .q (.mv (.t 0)), []⟩,
    ⟨(some 14), none, .e (.app 2 16 [(.int .u64 0), (.int .u64 0)] (.t 12) (.t 13)), []⟩,
    ⟨(some 4), none, .q (.mv (.t 14)), []⟩]
def c19_3 : ACode := .seq c19_2 .ret
def c19_4 : ACode := .cond (.t 11) c19_3 .skip
def c19_5 : ACode := .seq c19_1 c19_4
def c19_6 : ACode := .ops [
    ⟨(some 5), none, .q (.mv (.v (.sl .full []))), []⟩]
def c19_7 : ACode := .ops [
    ⟨(some 6), none, .q (.mv (.v (.int .i64 0))), []⟩]
def c19_8 : ACode := .ops [
    ⟨(some 15), none, .q (.mv (.t 6)), []⟩,
    ⟨(some 16), none, .q (.mv (.t 0)), []⟩,
    ⟨(some 17), none, .q (.len (.t 16)), []⟩,
    ⟨(some 18), none, .q (.bin .lss (.t 15) (.t 17)), []⟩,
    ⟨(some 19), none, .q (.mv (.t 18)), []⟩,
    ⟨(some 20), (some (19, true)), .q (.mv (.t 0)), []⟩,
    ⟨(some 21), (some (19, true)), .q (.mv (.t 6)), []⟩,
    ⟨(some 22), (some (19, true)), .q (.ia 2 (.t 20) (.t 21)), []⟩,
    ⟨(some 23), (some (19, true)), .q (.fa 1 (.t 22)), []⟩,
    ⟨(some 24), (some (19, true)), .q (.ld none (.t 23)), []⟩,
    ⟨(some 25), (some (19, true)), .q (.fa 0 (.t 3)), []⟩,
    ⟨(some 26), (some (19, true)), .q (.ld none (.t 25)), []⟩,
    ⟨(some 27), (some (19, true)), .q (.bin .lss (.t 24) (.t 26)), []⟩,
    ⟨(some 28), none, .q (.pick (.t 19) (.t 27) (.v (.bool false))), []⟩]
def c19_9 : ACode := .cond (.t 28) .skip (.exit 0)
def c19_10 : ACode := .seq c19_8 c19_9
def c19_11 : ACode := .ops [
    ⟨(some 31), none, .q (.mv (.t 5)), []⟩,
    ⟨(some 32), none, .q (.mv (.t 0)), []⟩,
    ⟨(some 33), none, .q (.mv (.t 6)), []⟩,
    ⟨(some 34), none, .q (.ia 2 (.t 32) (.t 33)), []⟩,
    ⟨(some 35), none, .q (.ld (some 2) (.t 34)), []⟩,
    ⟨(some 36), none, .q (.bsl 2 [(.t 35)]), []⟩,
    ⟨(some 37), none, .e (.app 2 16 [(.int .u64 0), (.int .u64 0)] (.t 31) (.t 36)), []⟩,
    ⟨(some 5), none, .q (.mv (.t 37)), []⟩]
def c19_12 : ACode := .block 1 c19_11
def c19_13 : ACode := .ops [
    ⟨(some 29), none, .q (.mv (.t 6)), []⟩,
    ⟨(some 30), none, .q (.bin .add (.t 29) (.v (.int .i64 1))), []⟩,
    ⟨(some 6), none, .q (.mv (.t 30)), []⟩]
def c19_14 : ACode := .seq c19_12 c19_13
def c19_15 : ACode := .seq c19_10 c19_14
def c19_16 : ACode := .loop c19_15
def c19_17 : ACode := .block 0 c19_16
def c19_18 : ACode := .ops [
    ⟨(some 38), none, .q (.mv (.t 6)), []⟩,
    ⟨(some 39), none, .q (.mv (.t 0)), []⟩,
    ⟨(some 40), none, .q (.len (.t 39)), []⟩,
    ⟨(some 41), none, .q (.bin .lss (.t 38) (.t 40)), []⟩,
    ⟨(some 42), none, .q (.mv (.t 41)), []⟩,
    ⟨(some 43), (some (42, true)), .q (.mv (.t 0)), []⟩,
    ⟨(some 44), (some (42, true)), .q (.mv (.t 6)), []⟩,
    ⟨(some 45), (some (42, true)), .q (.ia 2 (.t 43) (.t 44)), []⟩,
    ⟨(some 46), (some (42, true)), .q (.fa 0 (.t 45)), []⟩,
    ⟨(some 47), (some (42, true)), .q (.ld none (.t 46)), []⟩,
    ⟨(some 48), (some (42, true)), .q (.fa 1 (.t 3)), []⟩,
    ⟨(some 49), (some (42, true)), .q (.ld none (.t 48)), []⟩,
    ⟨(some 50), (some (42, true)), .q (.bin .leq (.t 47) (.t 49)), []⟩,
    ⟨(some 51), none, .q (.pick (.t 42) (.t 50) (.v (.bool false))), []⟩]
def c19_19 : ACode := .cond (.t 51) .skip (.exit 2)
def c19_20 : ACode := .seq c19_18 c19_19
def c19_21 : ACode := .ops [
    ⟨(some 54), none, .q (.fa 0 (.t 3)), []⟩,
    ⟨(some 55), none, .q (.ld none (.t 54)), []⟩,
    ⟨(some 56), none, .q (.mv (.t 0)), []⟩,
    ⟨(some 57), none, .q (.mv (.t 6)), []⟩,
    ⟨(some 58), none, .q (.ia 2 (.t 56) (.t 57)), []⟩,
    ⟨(some 59), none, .q (.fa 0 (.t 58)), []⟩,
    ⟨(some 60), none, .q (.ld none (.t 59)), []⟩,
    ⟨(some 61), none, .q (.mnx false (.t 55) (.t 60)), []⟩,
    ⟨(some 62), none, .q (.fa 1 (.t 3)), []⟩,
    ⟨(some 63), none, .q (.ld none (.t 62)), []⟩,
    ⟨(some 64), none, .q (.mv (.t 0)), []⟩,
    ⟨(some 65), none, .q (.mv (.t 6)), []⟩,
    ⟨(some 66), none, .q (.ia 2 (.t 64) (.t 65)), []⟩,
    ⟨(some 67), none, .q (.fa 1 (.t 66)), []⟩,
    ⟨(some 68), none, .q (.ld none (.t 67)), []⟩,
    ⟨(some 69), none, .q (.mnx true (.t 63) (.t 68)), []⟩,
    ⟨(some 70), none, .q (.fa 0 (.t 3)), []⟩,
    ⟨none, none, .e (.store 1 (.t 70) (.t 61)), [⟨none, .ld none (.t 67), 68⟩]⟩,
    ⟨(some 71), none, .q (.fa 1 (.t 3)), []⟩,
    ⟨none, none, .e (.store 1 (.t 71) (.t 69)), []⟩]
def c19_22 : ACode := .block 3 c19_21
def c19_23 : ACode := .ops [
    ⟨(some 52), none, .q (.mv (.t 6)), []⟩,
    ⟨(some 53), none, .q (.bin .add (.t 52) (.v (.int .i64 1))), []⟩,
    ⟨(some 6), none, .q (.mv (.t 53)), []⟩]
def c19_24 : ACode := .seq c19_22 c19_23
def c19_25 : ACode := .seq c19_20 c19_24
def c19_26 : ACode := .loop c19_25
def c19_27 : ACode := .block 2 c19_26
def c19_28 : ACode := .ops [
    ⟨(some 72), none, .q (.mv (.t 5)), []⟩,
    ⟨(some 73), none, .q (.ld (some 2) (.t 3)), []⟩,
    ⟨(some 74), none, .q (.bsl 2 [(.t 73)]), []⟩,
    ⟨(some 76), none, .q (.mv (.t 0)), []⟩,
    ⟨(some 77), none, .q (.mv (.t 6)), []⟩,
    ⟨(some 78), none, .q (.slfrom (false, 2) (.t 76) (.t 77)), []⟩,
    ⟨(some 75), none, .e (.app 2 16 [(.int .u64 0), (.int .u64 0)] (.t 72) (.t 74)), []⟩,
    ⟨(some 79), none, .e (.app 2 16 [(.int .u64 0), (.int .u64 0)] (.t 75) (.t 78)), []⟩,
    ⟨(some 4), none, .q (.mv (.t 79)), []⟩]
def c19_29 : ACode := .seq c19_28 .ret
def c19_30 : ACode := .seq c19_27 c19_29
def c19_31 : ACode := .seq c19_17 c19_30
def c19_32 : ACode := .seq c19_7 c19_31
def c19_33 : ACode := .seq c19_6 c19_32
def c19_34 : ACode := .seq c19_5 c19_33
def c19_35 : ACode := .seq c19_0 c19_34
@[go_sem] theorem c19_0_wp (P : Program) (Q : APost) (a : AFr) (σ : ASt) : c19_0.wp P Q a σ = ACode.wp P (.ops [
    ⟨(some 3), none, .e (.box (.t 1)), []⟩,
    ⟨(some 4), none, .q (.mv (.v (.sl .full []))), []⟩]) Q a σ := id rfl
@[go_sem] theorem c19_1_wp (P : Program) (Q : APost) (a : AFr) (σ : ASt) : c19_1.wp P Q a σ = ACode.wp P (.ops [
    ⟨(some 7), none, .q (.fa 0 (.t 3)), []⟩,
    ⟨(some 8), none, .q (.ld none (.t 7)), []⟩,
    ⟨(some 9), none, .q (.fa 1 (.t 3)), []⟩,
    ⟨(some 10), none, .q (.ld none (.t 9)), []⟩,
    ⟨(some 11), none, .q (.bin .geq (.t 8) (.t 10)), []⟩]) Q a σ := id rfl
@[go_sem] theorem c19_2_wp (P : Program) (Q : APost) (a : AFr) (σ : ASt) : c19_2.wp P Q a σ = ACode.wp P (.ops [
    ⟨(some 12), none, .q (.bsl 2 []), []⟩,
    ⟨(some 13), none, .q (.mv (.t 0)), []⟩,
    ⟨(some 14), none, .e (.app 2 16 [(.int .u64 0), (.int .u64 0)] (.t 12) (.t 13)), []⟩,
    ⟨(some 4), none, .q (.mv (.t 14)), []⟩]) Q a σ := id rfl
@[go_sem] theorem c19_3_wp (P : Program) (Q : APost) (a : AFr) (σ : ASt) : c19_3.wp P Q a σ = ACode.wp P (.seq c19_2 .ret) Q a σ := id rfl
@[go_sem] theorem c19_4_wp (P : Program) (Q : APost) (a : AFr) (σ : ASt) : c19_4.wp P Q a σ = ACode.wp P (.cond (.t 11) c19_3 .skip) Q a σ := id rfl
@[go_sem] theorem c19_5_wp (P : Program) (Q : APost) (a : AFr) (σ : ASt) : c19_5.wp P Q a σ = ACode.wp P (.seq c19_1 c19_4) Q a σ := id rfl
@[go_sem] theorem c19_6_wp (P : Program) (Q : APost) (a : AFr) (σ : ASt) : c19_6.wp P Q a σ = ACode.wp P (.ops [
    ⟨(some 5), none, .q (.mv (.v (.sl .full []))), []⟩]) Q a σ := id rfl
@[go_sem] theorem c19_7_wp (P : Program) (Q : APost) (a : AFr) (σ : ASt) : c19_7.wp P Q a σ = ACode.wp P (.ops [
    ⟨(some 6), none, .q (.mv (.v (.int .i64 0))), []⟩]) Q a σ := id rfl
@[go_sem] theorem c19_8_wp (P : Program) (Q : APost) (a : AFr) (σ : ASt) : c19_8.wp P Q a σ = ACode.wp P (.ops [
    ⟨(some 15), none, .q (.mv (.t 6)), []⟩,
    ⟨(some 16), none, .q (.mv (.t 0)), []⟩,
    ⟨(some 17), none, .q (.len (.t 16)), []⟩,
    ⟨(some 18), none, .q (.bin .lss (.t 15) (.t 17)), []⟩,
    ⟨(some 19), none, .q (.mv (.t 18)), []⟩,
    ⟨(some 20), (some (19, true)), .q (.mv (.t 0)), []⟩,
    ⟨(some 21), (some (19, true)), .q (.mv (.t 6)), []⟩,
    ⟨(some 22), (some (19, true)), .q (.ia 2 (.t 20) (.t 21)), []⟩,
    ⟨(some 23), (some (19, true)), .q (.fa 1 (.t 22)), []⟩,
    ⟨(some 24), (some (19, true)), .q (.ld none (.t 23)), []⟩,
    ⟨(some 25), (some (19, true)), .q (.fa 0 (.t 3)), []⟩,
    ⟨(some 26), (some (19, true)), .q (.ld none (.t 25)), []⟩,
    ⟨(some 27), (some (19, true)), .q (.bin .lss (.t 24) (.t 26)), []⟩,
    ⟨(some 28), none, .q (.pick (.t 19) (.t 27) (.v (.bool false))), []⟩]) Q a σ := id rfl
@[go_sem] theorem c19_9_wp (P : Program) (Q : APost) (a : AFr) (σ : ASt) : c19_9.wp P Q a σ = ACode.wp P (.cond (.t 28) .skip (.exit 0)) Q a σ := id rfl
@[go_sem] theorem c19_10_wp (P : Program) (Q : APost) (a : AFr) (σ : ASt) : c19_10.wp P Q a σ = ACode.wp P (.seq c19_8 c19_9) Q a σ := id rfl
@[go_sem] theorem c19_11_wp (P : Program) (Q : APost) (a : AFr) (σ : ASt) : c19_11.wp P Q a σ = ACode.wp P (.ops [
    ⟨(some 31), none, .q (.mv (.t 5)), []⟩,
    ⟨(some 32), none, .q (.mv (.t 0)), []⟩,
    ⟨(some 33), none, .q (.mv (.t 6)), []⟩,
    ⟨(some 34), none, .q (.ia 2 (.t 32) (.t 33)), []⟩,
    ⟨(some 35), none, .q (.ld (some 2) (.t 34)), []⟩,
    ⟨(some 36), none, .q (.bsl 2 [(.t 35)]), []⟩,
    ⟨(some 37), none, .e (.app 2 16 [(.int .u64 0), (.int .u64 0)] (.t 31) (.t 36)), []⟩,
    ⟨(some 5), none, .q (.mv (.t 37)), []⟩]) Q a σ := id rfl
@[go_sem] theorem c19_12_wp (P : Program) (Q : APost) (a : AFr) (σ : ASt) : c19_12.wp P Q a σ = ACode.wp P (.block 1 c19_11) Q a σ := id rfl
@[go_sem] theorem c19_13_wp (P : Program) (Q : APost) (a : AFr) (σ : ASt) : c19_13.wp P Q a σ = ACode.wp P (.ops [
    ⟨(some 29), none, .q (.mv (.t 6)), []⟩,
    ⟨(some 30), none, .q (.bin .add (.t 29) (.v (.int .i64 1))), []⟩,
    ⟨(some 6), none, .q (.mv (.t 30)), []⟩]) Q a σ := id rfl
@[go_sem] theorem c19_14_wp (P : Program) (Q : APost) (a : AFr) (σ : ASt) : c19_14.wp P Q a σ = ACode.wp P (.seq c19_12 c19_13) Q a σ := id rfl
@[go_sem] theorem c19_15_wp (P : Program) (Q : APost) (a : AFr) (σ : ASt) : c19_15.wp P Q a σ = ACode.wp P (.seq c19_10 c19_14) Q a σ := id rfl
@[go_sem] theorem c19_16_wp (P : Program) (Q : APost) (a : AFr) (σ : ASt) : c19_16.wp P Q a σ = ACode.wp P (.loop c19_15) Q a σ := id rfl
@[go_sem] theorem c19_17_wp (P : Program) (Q : APost) (a : AFr) (σ : ASt) : c19_17.wp P Q a σ = ACode.wp P (.block 0 c19_16) Q a σ := id rfl
@[go_sem] theorem c19_18_wp (P : Program) (Q : APost) (a : AFr) (σ : ASt) : c19_18.wp P Q a σ = ACode.wp P (.ops [
    ⟨(some 38), none, .q (.mv (.t 6)), []⟩,
    ⟨(some 39), none, .q (.mv (.t 0)), []⟩,
    ⟨(some 40), none, .q (.len (.t 39)), []⟩,
    ⟨(some 41), none, .q (.bin .lss (.t 38) (.t 40)), []⟩,
    ⟨(some 42), none, .q (.mv (.t 41)), []⟩,
    ⟨(some 43), (some (42, true)), .q (.mv (.t 0)), []⟩,
    ⟨(some 44), (some (42, true)), .q (.mv (.t 6)), []⟩,
    ⟨(some 45), (some (42, true)), .q (.ia 2 (.t 43) (.t 44)), []⟩,
    ⟨(some 46), (some (42, true)), .q (.fa 0 (.t 45)), []⟩,
    ⟨(some 47), (some (42, true)), .q (.ld none (.t 46)), []⟩,
    ⟨(some 48), (some (42, true)), .q (.fa 1 (.t 3)), []⟩,
    ⟨(some 49), (some (42, true)), .q (.ld none (.t 48)), []⟩,
    ⟨(some 50), (some (42, true)), .q (.bin .leq (.t 47) (.t 49)), []⟩,
    ⟨(some 51), none, .q (.pick (.t 42) (.t 50) (.v (.bool false))), []⟩]) Q a σ := id rfl
@[go_sem] theorem c19_19_wp (P : Program) (Q : APost) (a : AFr) (σ : ASt) : c19_19.wp P Q a σ = ACode.wp P (.cond (.t 51) .skip (.exit 2)) Q a σ := id rfl
@[go_sem] theorem c19_20_wp (P : Program) (Q : APost) (a : AFr) (σ : ASt) : c19_20.wp P Q a σ = ACode.wp P (.seq c19_18 c19_19) Q a σ := id rfl
@[go_sem] theorem c19_21_wp (P : Program) (Q : APost) (a : AFr) (σ : ASt) : c19_21.wp P Q a σ = ACode.wp P (.ops [
    ⟨(some 54), none, .q (.fa 0 (.t 3)), []⟩,
    ⟨(some 55), none, .q (.ld none (.t 54)), []⟩,
    ⟨(some 56), none, .q (.mv (.t 0)), []⟩,
    ⟨(some 57), none, .q (.mv (.t 6)), []⟩,
    ⟨(some 58), none, .q (.ia 2 (.t 56) (.t 57)), []⟩,
    ⟨(some 59), none, .q (.fa 0 (.t 58)), []⟩,
    ⟨(some 60), none, .q (.ld none (.t 59)), []⟩,
    ⟨(some 61), none, .q (.mnx false (.t 55) (.t 60)), []⟩,
    ⟨(some 62), none, .q (.fa 1 (.t 3)), []⟩,
    ⟨(some 63), none, .q (.ld none (.t 62)), []⟩,
    ⟨(some 64), none, .q (.mv (.t 0)), []⟩,
    ⟨(some 65), none, .q (.mv (.t 6)), []⟩,
    ⟨(some 66), none, .q (.ia 2 (.t 64) (.t 65)), []⟩,
    ⟨(some 67), none, .q (.fa 1 (.t 66)), []⟩,
    ⟨(some 68), none, .q (.ld none (.t 67)), []⟩,
    ⟨(some 69), none, .q (.mnx true (.t 63) (.t 68)), []⟩,
    ⟨(some 70), none, .q (.fa 0 (.t 3)), []⟩,
    ⟨none, none, .e (.store 1 (.t 70) (.t 61)), [⟨none, .ld none (.t 67), 68⟩]⟩,
    ⟨(some 71), none, .q (.fa 1 (.t 3)), []⟩,
    ⟨none, none, .e (.store 1 (.t 71) (.t 69)), []⟩]) Q a σ := id rfl
@[go_sem] theorem c19_22_wp (P : Program) (Q : APost) (a : AFr) (σ : ASt) : c19_22.wp P Q a σ = ACode.wp P (.block 3 c19_21) Q a σ := id rfl
@[go_sem] theorem c19_23_wp (P : Program) (Q : APost) (a : AFr) (σ : ASt) : c19_23.wp P Q a σ = ACode.wp P (.ops [
    ⟨(some 52), none, .q (.mv (.t 6)), []⟩,
    ⟨(some 53), none, .q (.bin .add (.t 52) (.v (.int .i64 1))), []⟩,
    ⟨(some 6), none, .q (.mv (.t 53)), []⟩]) Q a σ := id rfl
@[go_sem] theorem c19_24_wp (P : Program) (Q : APost) (a : AFr) (σ : ASt) : c19_24.wp P Q a σ = ACode.wp P (.seq c19_22 c19_23) Q a σ := id rfl
@[go_sem] theorem c19_25_wp (P : Program) (Q : APost) (a : AFr) (σ : ASt) : c19_25.wp P Q a σ = ACode.wp P (.seq c19_20 c19_24) Q a σ := id rfl
@[go_sem] theorem c19_26_wp (P : Program) (Q : APost) (a : AFr) (σ : ASt) : c19_26.wp P Q a σ = ACode.wp P (.loop c19_25) Q a σ := id rfl
@[go_sem] theorem c19_27_wp (P : Program) (Q : APost) (a : AFr) (σ : ASt) : c19_27.wp P Q a σ = ACode.wp P (.block 2 c19_26) Q a σ := id rfl
@[go_sem] theorem c19_28_wp (P : Program) (Q : APost) (a : AFr) (σ : ASt) : c19_28.wp P Q a σ = ACode.wp P (.ops [
    ⟨(some 72), none, .q (.mv (.t 5)), []⟩,
    ⟨(some 73), none, .q (.ld (some 2) (.t 3)), []⟩,
    ⟨(some 74), none, .q (.bsl 2 [(.t 73)]), []⟩,
    ⟨(some 76), none, .q (.mv (.t 0)), []⟩,
    ⟨(some 77), none, .q (.mv (.t 6)), []⟩,
    ⟨(some 78), none, .q (.slfrom (false, 2) (.t 76) (.t 77)), []⟩,
    ⟨(some 75), none, .e (.app 2 16 [(.int .u64 0), (.int .u64 0)] (.t 72) (.t 74)), []⟩,
    ⟨(some 79), none, .e (.app 2 16 [(.int .u64 0), (.int .u64 0)] (.t 75) (.t 78)), []⟩,
    ⟨(some 4), none, .q (.mv (.t 79)), []⟩]) Q a σ := id rfl
@[go_sem] theorem c19_29_wp (P : Program) (Q : APost) (a : AFr) (σ : ASt) : c19_29.wp P Q a σ = ACode.wp P (.seq c19_28 .ret) Q a σ := id rfl
@[go_sem] theorem c19_30_wp (P : Program) (Q : APost) (a : AFr) (σ : ASt) : c19_30.wp P Q a σ = ACode.wp P (.seq c19_27 c19_29) Q a σ := id rfl
@[go_sem] theorem c19_31_wp (P : Program) (Q : APost) (a : AFr) (σ : ASt) : c19_31.wp P Q a σ = ACode.wp P (.seq c19_17 c19_30) Q a σ := id rfl
@[go_sem] theorem c19_32_wp (P : Program) (Q : APost) (a : AFr) (σ : ASt) : c19_32.wp P Q a σ = ACode.wp P (.seq c19_7 c19_31) Q a σ := id rfl
@[go_sem] theorem c19_33_wp (P : Program) (Q : APost) (a : AFr) (σ : ASt) : c19_33.wp P Q a σ = ACode.wp P (.seq c19_6 c19_32) Q a σ := id rfl
@[go_sem] theorem c19_34_wp (P : Program) (Q : APost) (a : AFr) (σ : ASt) : c19_34.wp P Q a σ = ACode.wp P (.seq c19_5 c19_33) Q a σ := id rfl
@[go_sem] theorem c19_35_wp (P : Program) (Q : APost) (a : AFr) (σ : ASt) : c19_35.wp P Q a σ = ACode.wp P (.seq c19_0 c19_34) Q a σ := id rfl
def c19 : AFn := ⟨80, [.t 4], c19_35⟩
set_option maxRecDepth 100000 in
theorem c19_ok : compF Try.prog Try.f19 = some c19 := by kernel_rfl
theorem a19 {args : List AV} {σ : ASt} {R : AV → ASt → Prop} (hl : args.length ≤ 80) (h : c19_35.wp Try.prog (RetQ [.t 4] R) (init args) σ) : ACalls Try.prog 19 args σ R := acalls_of Try.func19 c19_ok hl h

/-! 27: tabular/vint.Read -/
def c27_0 : ACode := .ops [
    ⟨(some 2), none, .q (.mv (.v .nilp)), []⟩]
def c27_1 : ACode := .ops [
    ⟨(some 3), none, .q (.mv (.t 0)), []⟩,
    ⟨(some 4), none, .q (.build [(.str []), (.int .i64 0), (.int .i64 0)] [(0, 1, (.t 3))]), []⟩,
    ⟨(some 5), none, .e (.box (.t 4)), []⟩,
    ⟨(some 2), none, .q (.mv (.t 5)), []⟩]
def c27_2 : ACode := .seq c27_1 .ret
def c27_3 : ACode := .seq c27_0 c27_2
@[go_sem] theorem c27_0_wp (P : Program) (Q : APost) (a : AFr) (σ : ASt) : c27_0.wp P Q a σ = ACode.wp P (.ops [
    ⟨(some 2), none, .q (.mv (.v .nilp)), []⟩]) Q a σ := id rfl
@[go_sem] theorem c27_1_wp (P : Program) (Q : APost) (a : AFr) (σ : ASt) : c27_1.wp P Q a σ = ACode.wp P (.ops [
    ⟨(some 3), none, .q (.mv (.t 0)), []⟩,
    ⟨(some 4), none, .q (.build [(.str []), (.int .i64 0), (.int .i64 0)] [(0, 1, (.t 3))]), []⟩,
    ⟨(some 5), none, .e (.box (.t 4)), []⟩,
    ⟨(some 2), none, .q (.mv (.t 5)), []⟩]) Q a σ := id rfl
@[go_sem] theorem c27_2_wp (P : Program) (Q : APost) (a : AFr) (σ : ASt) : c27_2.wp P Q a σ = ACode.wp P (.seq c27_1 .ret) Q a σ := id rfl
@[go_sem] theorem c27_3_wp (P : Program) (Q : APost) (a : AFr) (σ : ASt) : c27_3.wp P Q a σ = ACode.wp P (.seq c27_0 c27_2) Q a σ := id rfl
def c27 : AFn := ⟨6, [.t 2], c27_3⟩
set_option maxRecDepth 100000 in
theorem c27_ok : compF Try.prog Try.f27 = some c27 := by kernel_rfl
theorem a27 {args : List AV} {σ : ASt} {R : AV → ASt → Prop} (hl : args.length ≤ 6) (h : c27_3.wp Try.prog (RetQ [.t 2] R) (init args) σ) : ACalls Try.prog 27 args σ R := acalls_of Try.func27 c27_ok hl h

/-! 28: (*tabular/vint.Reader).Uint -/
def c28_0 : ACode := .ops [
    ⟨(some 2), none, .q (.mv (.v (.int .u64 0))), []⟩]
def c28_1 : ACode := .ops [
    ⟨(some 3), none, .q (.mv (.v (.int .u64 0))), []⟩]
def c28_2 : ACode := .ops [
    ⟨(some 4), none, .q (.mv (.v (.int .i64 0))), []⟩]
def c28_3 : ACode := .ops [
    ⟨(some 6), none, .q (.mv (.t 0)), []⟩,
    ⟨(some 7), none, .q (.nc (.t 6)), []⟩,
    ⟨(some 8), none, .q (.fa 2 (.t 7)), []⟩,
    ⟨(some 9), none, .q (.ld none (.t 8)), []⟩,
    ⟨(some 10), none, .q (.bin .eql (.t 9) (.v (.int .i64 0))), []⟩]
def c28_4 : ACode := .cond (.t 10) .skip (.exit 0)
def c28_5 : ACode := .seq c28_3 c28_4
def c28_6 : ACode := .ops [
    ⟨(some 13), none, .q (.mv (.t 0)), []⟩,
    ⟨(some 14), none, .q (.nc (.t 13)), []⟩,
    ⟨(some 15), none, .q (.fa 1 (.t 14)), []⟩,
    ⟨(some 16), none, .q (.ld none (.t 15)), []⟩,
    ⟨(some 17), none, .q (.mv (.t 4)), []⟩,
    ⟨(some 18), none, .q (.bin .add (.t 16) (.t 17)), []⟩,
    ⟨(some 19), none, .q (.mv (.t 0)), []⟩,
    ⟨(some 20), none, .q (.nc (.t 19)), []⟩,
    ⟨(some 21), none, .q (.fa 0 (.t 20)), []⟩,
    ⟨(some 22), none, .q (.ld none (.t 21)), []⟩,
    ⟨(some 23), none, .q (.lenS (.t 22)), []⟩,
    ⟨(some 24), none, .q (.bin .geq (.t 18) (.t 23)), []⟩]
def c28_7 : ACode := .ops [
    ⟨(some 25), none, .q (.mv (.t 0)), []⟩,
    ⟨(some 26), none, .e (.call 48 [(.t 25), (.v (.int .i64 2))]), []⟩]
def c28_8 : ACode := .seq c28_7 (.exit 0)
def c28_9 : ACode := .cond (.t 24) c28_8 .skip
def c28_10 : ACode := .seq c28_6 c28_9
def c28_11 : ACode := .ops [
    ⟨(some 27), none, .q (.mv (.t 0)), []⟩,
    ⟨(some 28), none, .q (.nc (.t 27)), []⟩,
    ⟨(some 29), none, .q (.fa 0 (.t 28)), []⟩,
    ⟨(some 30), none, .q (.ld none (.t 29)), []⟩,
    ⟨(some 31), none, .q (.mv (.t 0)), []⟩,
    ⟨(some 32), none, .q (.nc (.t 31)), []⟩,
    ⟨(some 33), none, .q (.fa 1 (.t 32)), []⟩,
    ⟨(some 34), none, .q (.ld none (.t 33)), []⟩,
    ⟨(some 35), none, .q (.mv (.t 4)), []⟩,
    ⟨(some 36), none, .q (.bin .add (.t 34) (.t 35)), []⟩,
    ⟨(some 37), none, .q (.idx (.t 30) (.t 36)), []⟩,
    ⟨(some 5), none, .q (.mv (.t 37)), []⟩]
def c28_12 : ACode := .ops [
    ⟨(some 38), none, .q (.mv (.t 4)), []⟩,
    ⟨(some 39), none, .q (.bin .eql (.t 38) (.v (.int .i64 9))), []⟩,
    ⟨(some 40), none, .q (.mv (.t 39)), []⟩,
    ⟨(some 41), (some (40, true)), .q (.mv (.t 5)), []⟩,
    ⟨(some 42), (some (40, true)), .q (.bin .gtr (.t 41) (.v (.int .u8 1))), []⟩,
    ⟨(some 43), none, .q (.pick (.t 40) (.t 42) (.v (.bool false))), []⟩,
    ⟨(some 44), none, .q (.mv (.t 43)), []⟩,
    ⟨(some 45), (some (44, false)), .q (.mv (.t 4)), []⟩,
    ⟨(some 46), (some (44, false)), .q (.bin .gtr (.t 45) (.v (.int .i64 0))), []⟩,
    ⟨(some 47), (some (44, false)), .q (.mv (.t 46)), []⟩,
    ⟨(some 48), (some (47, true)), .q (.mv (.t 5)), []⟩,
    ⟨(some 49), (some (47, true)), .q (.bin .eql (.t 48) (.v (.int .u8 0))), []⟩,
    ⟨(some 50), (some (44, false)), .q (.pick (.t 47) (.t 49) (.v (.bool false))), []⟩,
    ⟨(some 51), none, .q (.pick (.t 44) (.v (.bool true)) (.t 50)), []⟩]
def c28_13 : ACode := .ops [
    ⟨(some 52), none, .q (.mv (.t 0)), []⟩,
    ⟨(some 53), none, .e (.call 48 [(.t 52), (.v (.int .i64 3))]), []⟩]
def c28_14 : ACode := .seq c28_13 (.exit 0)
def c28_15 : ACode := .cond (.t 51) c28_14 .skip
def c28_16 : ACode := .seq c28_12 c28_15
def c28_17 : ACode := .ops [
    ⟨(some 54), none, .q (.mv (.t 3)), []⟩,
    ⟨(some 55), none, .q (.mv (.t 5)), []⟩,
    ⟨(some 56), none, .q (.bin .and (.t 55) (.v (.int .u8 127))), []⟩,
    ⟨(some 57), none, .q (.conv .u64 (.t 56)), []⟩,
    ⟨(some 58), none, .q (.mv (.t 4)), []⟩,
    ⟨(some 59), none, .q (.bin .mul (.v (.int .i64 7)) (.t 58)), []⟩,
    ⟨(some 60), none, .q (.bin .shl (.t 57) (.t 59)), []⟩,
    ⟨(some 61), none, .q (.bin .or (.t 54) (.t 60)), []⟩,
    ⟨(some 3), none, .q (.mv (.t 61)), []⟩]
def c28_18 : ACode := .ops [
    ⟨(some 62), none, .q (.mv (.t 5)), []⟩,
    ⟨(some 63), none, .q (.bin .lss (.t 62) (.v (.int .u8 128))), []⟩]
def c28_19 : ACode := .ops [
    ⟨(some 64), none, .q (.mv (.t 0)), []⟩,
    ⟨(some 65), none, .q (.nc (.t 64)), []⟩,
    ⟨(some 66), none, .q (.fa 1 (.t 65)), []⟩,
    ⟨(some 67), none, .q (.ld none (.t 66)), []⟩,
    ⟨(some 68), none, .q (.mv (.t 4)), []⟩,
    ⟨(some 69), none, .q (.bin .add (.t 68) (.v (.int .i64 1))), []⟩,
    ⟨(some 70), none, .q (.bin .add (.t 67) (.t 69)), []⟩,
    ⟨(some 71), none, .q (.nc (.t 64)), []⟩,
    ⟨(some 72), none, .q (.fa 1 (.t 71)), []⟩,
    ⟨none, none, .e (.store 1 (.t 72) (.t 70)), []⟩]
def c28_20 : ACode := .ops [
    ⟨(some 73), none, .q (.mv (.t 3)), []⟩,
    ⟨(some 2), none, .q (.mv (.t 73)), []⟩]
def c28_21 : ACode := .seq c28_20 .ret
def c28_22 : ACode := .seq c28_19 c28_21
def c28_23 : ACode := .cond (.t 63) c28_22 .skip
def c28_24 : ACode := .seq c28_18 c28_23
def c28_25 : ACode := .seq c28_17 c28_24
def c28_26 : ACode := .seq c28_16 c28_25
def c28_27 : ACode := .seq c28_11 c28_26
def c28_28 : ACode := .seq c28_10 c28_27
def c28_29 : ACode := .block 1 c28_28
def c28_30 : ACode := .ops [
    ⟨(some 11), none, .q (.mv (.t 4)), []⟩,
    ⟨(some 12), none, .q (.bin .add (.t 11) (.v (.int .i64 1))), []⟩,
    ⟨(some 4), none, .q (.mv (.t 12)), []⟩]
def c28_31 : ACode := .seq c28_29 c28_30
def c28_32 : ACode := .seq c28_5 c28_31
def c28_33 : ACode := .loop c28_32
def c28_34 : ACode := .block 0 c28_33
def c28_35 : ACode := .seq c28_2 c28_34
def c28_36 : ACode := .ops [
    ⟨(some 2), none, .q (.mv (.v (.int .u64 0))), []⟩]
def c28_37 : ACode := .seq c28_36 .ret
def c28_38 : ACode := .seq c28_35 c28_37
def c28_39 : ACode := .seq c28_1 c28_38
def c28_40 : ACode := .seq c28_0 c28_39
@[go_sem] theorem c28_0_wp (P : Program) (Q : APost) (a : AFr) (σ : ASt) : c28_0.wp P Q a σ = ACode.wp P (.ops [
    ⟨(some 2), none, .q (.mv (.v (.int .u64 0))), []⟩]) Q a σ := id rfl
@[go_sem] theorem c28_1_wp (P : Program) (Q : APost) (a : AFr) (σ : ASt) : c28_1.wp P Q a σ = ACode.wp P (.ops [
    ⟨(some 3), none, .q (.mv (.v (.int .u64 0))), []⟩]) Q a σ := id rfl
@[go_sem] theorem c28_2_wp (P : Program) (Q : APost) (a : AFr) (σ : ASt) : c28_2.wp P Q a σ = ACode.wp P (.ops [
    ⟨(some 4), none, .q (.mv (.v (.int .i64 0))), []⟩]) Q a σ := id rfl
@[go_sem] theorem c28_3_wp (P : Program) (Q : APost) (a : AFr) (σ : ASt) : c28_3.wp P Q a σ = ACode.wp P (.ops [
    ⟨(some 6), none, .q (.mv (.t 0)), []⟩,
    ⟨(some 7), none, .q (.nc (.t 6)), []⟩,
    ⟨(some 8), none, .q (.fa 2 (.t 7)), []⟩,
    ⟨(some 9), none, .q (.ld none (.t 8)), []⟩,
    ⟨(some 10), none, .q (.bin .eql (.t 9) (.v (.int .i64 0))), []⟩]) Q a σ := id rfl
@[go_sem] theorem c28_4_wp (P : Program) (Q : APost) (a : AFr) (σ : ASt) : c28_4.wp P Q a σ = ACode.wp P (.cond (.t 10) .skip (.exit 0)) Q a σ := id rfl
@[go_sem] theorem c28_5_wp (P : Program) (Q : APost) (a : AFr) (σ : ASt) : c28_5.wp P Q a σ = ACode.wp P (.seq c28_3 c28_4) Q a σ := id rfl
@[go_sem] theorem c28_6_wp (P : Program) (Q : APost) (a : AFr) (σ : ASt) : c28_6.wp P Q a σ = ACode.wp P (.ops [
    ⟨(some 13), none, .q (.mv (.t 0)), []⟩,
    ⟨(some 14), none, .q (.nc (.t 13)), []⟩,
    ⟨(some 15), none, .q (.fa 1 (.t 14)), []⟩,
    ⟨(some 16), none, .q (.ld none (.t 15)), []⟩,
    ⟨(some 17), none, .q (.mv (.t 4)), []⟩,
    ⟨(some 18), none, .q (.bin .add (.t 16) (.t 17)), []⟩,
    ⟨(some 19), none, .q (.mv (.t 0)), []⟩,
    ⟨(some 20), none, .q (.nc (.t 19)), []⟩,
    ⟨(some 21), none, .q (.fa 0 (.t 20)), []⟩,
    ⟨(some 22), none, .q (.ld none (.t 21)), []⟩,
    ⟨(some 23), none, .q (.lenS (.t 22)), []⟩,
    ⟨(some 24), none, .q (.bin .geq (.t 18) (.t 23)), []⟩]) Q a σ := id rfl
@[go_sem] theorem c28_7_wp (P : Program) (Q : APost) (a : AFr) (σ : ASt) : c28_7.wp P Q a σ = ACode.wp P (.ops [
    ⟨(some 25), none, .q (.mv (.t 0)), []⟩,
    ⟨(some 26), none, .e (.call 48 [(.t 25), (.v (.int .i64 2))]), []⟩]) Q a σ := id rfl
@[go_sem] theorem c28_8_wp (P : Program) (Q : APost) (a : AFr) (σ : ASt) : c28_8.wp P Q a σ = ACode.wp P (.seq c28_7 (.exit 0)) Q a σ := id rfl
@[go_sem] theorem c28_9_wp (P : Program) (Q : APost) (a : AFr) (σ : ASt) : c28_9.wp P Q a σ = ACode.wp P (.cond (.t 24) c28_8 .skip) Q a σ := id rfl
@[go_sem] theorem c28_10_wp (P : Program) (Q : APost) (a : AFr) (σ : ASt) : c28_10.wp P Q a σ = ACode.wp P (.seq c28_6 c28_9) Q a σ := id rfl
@[go_sem] theorem c28_11_wp (P : Program) (Q : APost) (a : AFr) (σ : ASt) : c28_11.wp P Q a σ = ACode.wp P (.ops [
    ⟨(some 27), none, .q (.mv (.t 0)), []⟩,
    ⟨(some 28), none, .q (.nc (.t 27)), []⟩,
    ⟨(some 29), none, .q (.fa 0 (.t 28)), []⟩,
    ⟨(some 30), none, .q (.ld none (.t 29)), []⟩,
    ⟨(some 31), none, .q (.mv (.t 0)), []⟩,
    ⟨(some 32), none, .q (.nc (.t 31)), []⟩,
    ⟨(some 33), none, .q (.fa 1 (.t 32)), []⟩,
    ⟨(some 34), none, .q (.ld none (.t 33)), []⟩,
    ⟨(some 35), none, .q (.mv (.t 4)), []⟩,
    ⟨(some 36), none, .q (.bin .add (.t 34) (.t 35)), []⟩,
    ⟨(some 37), none, .q (.idx (.t 30) (.t 36)), []⟩,
    ⟨(some 5), none, .q (.mv (.t 37)), []⟩]) Q a σ := id rfl
@[go_sem] theorem c28_12_wp (P : Program) (Q : APost) (a : AFr) (σ : ASt) : c28_12.wp P Q a σ = ACode.wp P (.ops [
    ⟨(some 38), none, .q (.mv (.t 4)), []⟩,
    ⟨(some 39), none, .q (.bin .eql (.t 38) (.v (.int .i64 9))), []⟩,
    ⟨(some 40), none, .q (.mv (.t 39)), []⟩,
    ⟨(some 41), (some (40, true)), .q (.mv (.t 5)), []⟩,
    ⟨(some 42), (some (40, true)), .q (.bin .gtr (.t 41) (.v (.int .u8 1))), []⟩,
    ⟨(some 43), none, .q (.pick (.t 40) (.t 42) (.v (.bool false))), []⟩,
    ⟨(some 44), none, .q (.mv (.t 43)), []⟩,
    ⟨(some 45), (some (44, false)), .q (.mv (.t 4)), []⟩,
    ⟨(some 46), (some (44, false)), .q (.bin .gtr (.t 45) (.v (.int .i64 0))), []⟩,
    ⟨(some 47), (some (44, false)), .q (.mv (.t 46)), []⟩,
    ⟨(some 48), (some (47, true)), .q (.mv (.t 5)), []⟩,
    ⟨(some 49), (some (47, true)), .q (.bin .eql (.t 48) (.v (.int .u8 0))), []⟩,
    ⟨(some 50), (some (44, false)), .q (.pick (.t 47) (.t 49) (.v (.bool false))), []⟩,
    ⟨(some 51), none, .q (.pick (.t 44) (.v (.bool true)) (.t 50)), []⟩]) Q a σ := id rfl
@[go_sem] theorem c28_13_wp (P : Program) (Q : APost) (a : AFr) (σ : ASt) : c28_13.wp P Q a σ = ACode.wp P (.ops [
    ⟨(some 52), none, .q (.mv (.t 0)), []⟩,
    ⟨(some 53), none, .e (.call 48 [(.t 52), (.v (.int .i64 3))]), []⟩]) Q a σ := id rfl
@[go_sem] theorem c28_14_wp (P : Program) (Q : APost) (a : AFr) (σ : ASt) : c28_14.wp P Q a σ = ACode.wp P (.seq c28_13 (.exit 0)) Q a σ := id rfl
@[go_sem] theorem c28_15_wp (P : Program) (Q : APost) (a : AFr) (σ : ASt) : c28_15.wp P Q a σ = ACode.wp P (.cond (.t 51) c28_14 .skip) Q a σ := id rfl
@[go_sem] theorem c28_16_wp (P : Program) (Q : APost) (a : AFr) (σ : ASt) : c28_16.wp P Q a σ = ACode.wp P (.seq c28_12 c28_15) Q a σ := id rfl
@[go_sem] theorem c28_17_wp (P : Program) (Q : APost) (a : AFr) (σ : ASt) : c28_17.wp P Q a σ = ACode.wp P (.ops [
    ⟨(some 54), none, .q (.mv (.t 3)), []⟩,
    ⟨(some 55), none, .q (.mv (.t 5)), []⟩,
    ⟨(some 56), none, .q (.bin .and (.t 55) (.v (.int .u8 127))), []⟩,
    ⟨(some 57), none, .q (.conv .u64 (.t 56)), []⟩,
    ⟨(some 58), none, .q (.mv (.t 4)), []⟩,
    ⟨(some 59), none, .q (.bin .mul (.v (.int .i64 7)) (.t 58)), []⟩,
    ⟨(some 60), none, .q (.bin .shl (.t 57) (.t 59)), []⟩,
    ⟨(some 61), none, .q (.bin .or (.t 54) (.t 60)), []⟩,
    ⟨(some 3), none, .q (.mv (.t 61)), []⟩]) Q a σ := id rfl
@[go_sem] theorem c28_18_wp (P : Program) (Q : APost) (a : AFr) (σ : ASt) : c28_18.wp P Q a σ = ACode.wp P (.ops [
    ⟨(some 62), none, .q (.mv (.t 5)), []⟩,
    ⟨(some 63), none, .q (.bin .lss (.t 62) (.v (.int .u8 128))), []⟩]) Q a σ := id rfl
@[go_sem] theorem c28_19_wp (P : Program) (Q : APost) (a : AFr) (σ : ASt) : c28_19.wp P Q a σ = ACode.wp P (.ops [
    ⟨(some 64), none, .q (.mv (.t 0)), []⟩,
    ⟨(some 65), none, .q (.nc (.t 64)), []⟩,
    ⟨(some 66), none, .q (.fa 1 (.t 65)), []⟩,
    ⟨(some 67), none, .q (.ld none (.t 66)), []⟩,
    ⟨(some 68), none, .q (.mv (.t 4)), []⟩,
    ⟨(some 69), none, .q (.bin .add (.t 68) (.v (.int .i64 1))), []⟩,
    ⟨(some 70), none, .q (.bin .add (.t 67) (.t 69)), []⟩,
    ⟨(some 71), none, .q (.nc (.t 64)), []⟩,
    ⟨(some 72), none, .q (.fa 1 (.t 71)), []⟩,
    ⟨none, none, .e (.store 1 (.t 72) (.t 70)), []⟩]) Q a σ := id rfl
@[go_sem] theorem c28_20_wp (P : Program) (Q : APost) (a : AFr) (σ : ASt) : c28_20.wp P Q a σ = ACode.wp P (.ops [
    ⟨(some 73), none, .q (.mv (.t 3)), []⟩,
    ⟨(some 2), none, .q (.mv (.t 73)), []⟩]) Q a σ := id rfl
@[go_sem] theorem c28_21_wp (P : Program) (Q : APost) (a : AFr) (σ : ASt) : c28_21.wp P Q a σ = ACode.wp P (.seq c28_20 .ret) Q a σ := id rfl
@[go_sem] theorem c28_22_wp (P : Program) (Q : APost) (a : AFr) (σ : ASt) : c28_22.wp P Q a σ = ACode.wp P (.seq c28_19 c28_21) Q a σ := id rfl
@[go_sem] theorem c28_23_wp (P : Program) (Q : APost) (a : AFr) (σ : ASt) : c28_23.wp P Q a σ = ACode.wp P (.cond (.t 63) c28_22 .skip) Q a σ := id rfl
@[go_sem] theorem c28_24_wp (P : Program) (Q : APost) (a : AFr) (σ : ASt) : c28_24.wp P Q a σ = ACode.wp P (.seq c28_18 c28_23) Q a σ := id rfl
@[go_sem] theorem c28_25_wp (P : Program) (Q : APost) (a : AFr) (σ : ASt) : c28_25.wp P Q a σ = ACode.wp P (.seq c28_17 c28_24) Q a σ := id rfl
@[go_sem] theorem c28_26_wp (P : Program) (Q : APost) (a : AFr) (σ : ASt) : c28_26.wp P Q a σ = ACode.wp P (.seq c28_16 c28_25) Q a σ := id rfl
@[go_sem] theorem c28_27_wp (P : Program) (Q : APost) (a : AFr) (σ : ASt) : c28_27.wp P Q a σ = ACode.wp P (.seq c28_11 c28_26) Q a σ := id rfl
@[go_sem] theorem c28_28_wp (P : Program) (Q : APost) (a : AFr) (σ : ASt) : c28_28.wp P Q a σ = ACode.wp P (.seq c28_10 c28_27) Q a σ := id rfl
@[go_sem] theorem c28_29_wp (P : Program) (Q : APost) (a : AFr) (σ : ASt) : c28_29.wp P Q a σ = ACode.wp P (.block 1 c28_28) Q a σ := id rfl
@[go_sem] theorem c28_30_wp (P : Program) (Q : APost) (a : AFr) (σ : ASt) : c28_30.wp P Q a σ = ACode.wp P (.ops [
    ⟨(some 11), none, .q (.mv (.t 4)), []⟩,
    ⟨(some 12), none, .q (.bin .add (.t 11) (.v (.int .i64 1))), []⟩,
    ⟨(some 4), none, .q (.mv (.t 12)), []⟩]) Q a σ := id rfl
@[go_sem] theorem c28_31_wp (P : Program) (Q : APost) (a : AFr) (σ : ASt) : c28_31.wp P Q a σ = ACode.wp P (.seq c28_29 c28_30) Q a σ := id rfl
@[go_sem] theorem c28_32_wp (P : Program) (Q : APost) (a : AFr) (σ : ASt) : c28_32.wp P Q a σ = ACode.wp P (.seq c28_5 c28_31) Q a σ := id rfl
@[go_sem] theorem c28_33_wp (P : Program) (Q : APost) (a : AFr) (σ : ASt) : c28_33.wp P Q a σ = ACode.wp P (.loop c28_32) Q a σ := id rfl
@[go_sem] theorem c28_34_wp (P : Program) (Q : APost) (a : AFr) (σ : ASt) : c28_34.wp P Q a σ = ACode.wp P (.block 0 c28_33) Q a σ := id rfl
@[go_sem] theorem c28_35_wp (P : Program) (Q : APost) (a : AFr) (σ : ASt) : c28_35.wp P Q a σ = ACode.wp P (.seq c28_2 c28_34) Q a σ := id rfl
@[go_sem] theorem c28_36_wp (P : Program) (Q : APost) (a : AFr) (σ : ASt) : c28_36.wp P Q a σ = ACode.wp P (.ops [
    ⟨(some 2), none, .q (.mv (.v (.int .u64 0))), []⟩]) Q a σ := id rfl
@[go_sem] theorem c28_37_wp (P : Program) (Q : APost) (a : AFr) (σ : ASt) : c28_37.wp P Q a σ = ACode.wp P (.seq c28_36 .ret) Q a σ := id rfl
@[go_sem] theorem c28_38_wp (P : Program) (Q : APost) (a : AFr) (σ : ASt) : c28_38.wp P Q a σ = ACode.wp P (.seq c28_35 c28_37) Q a σ := id rfl
@[go_sem] theorem c28_39_wp (P : Program) (Q : APost) (a : AFr) (σ : ASt) : c28_39.wp P Q a σ = ACode.wp P (.seq c28_1 c28_38) Q a σ := id rfl
@[go_sem] theorem c28_40_wp (P : Program) (Q : APost) (a : AFr) (σ : ASt) : c28_40.wp P Q a σ = ACode.wp P (.seq c28_0 c28_39) Q a σ := id rfl
def c28 : AFn := ⟨74, [.t 2], c28_40⟩
set_option maxRecDepth 100000 in
theorem c28_ok : compF Try.prog Try.f28 = some c28 := by kernel_rfl
theorem a28 {args : List AV} {σ : ASt} {R : AV → ASt → Prop} (hl : args.length ≤ 74) (h : c28_40.wp Try.prog (RetQ [.t 2] R) (init args) σ) : ACalls Try.prog 28 args σ R := acalls_of Try.func28 c28_ok hl h

/-! 37: (*tabular/vint.Reader).Err -/
def c37_0 : ACode := .ops [
    ⟨(some 2), none, .q (.mv (.v (.int .i64 0))), []⟩]
def c37_1 : ACode := .ops [
    ⟨(some 3), none, .q (.mv (.t 0)), []⟩,
    ⟨(some 4), none, .q (.nc (.t 3)), []⟩,
    ⟨(some 5), none, .q (.fa 2 (.t 4)), []⟩,
    ⟨(some 6), none, .q (.ld none (.t 5)), []⟩,
    ⟨(some 2), none, .q (.mv (.t 6)), []⟩]
def c37_2 : ACode := .seq c37_1 .ret
def c37_3 : ACode := .seq c37_0 c37_2
@[go_sem] theorem c37_0_wp (P : Program) (Q : APost) (a : AFr) (σ : ASt) : c37_0.wp P Q a σ = ACode.wp P (.ops [
    ⟨(some 2), none, .q (.mv (.v (.int .i64 0))), []⟩]) Q a σ := id rfl
@[go_sem] theorem c37_1_wp (P : Program) (Q : APost) (a : AFr) (σ : ASt) : c37_1.wp P Q a σ = ACode.wp P (.ops [
    ⟨(some 3), none, .q (.mv (.t 0)), []⟩,
    ⟨(some 4), none, .q (.nc (.t 3)), []⟩,
    ⟨(some 5), none, .q (.fa 2 (.t 4)), []⟩,
    ⟨(some 6), none, .q (.ld none (.t 5)), []⟩,
    ⟨(some 2), none, .q (.mv (.t 6)), []⟩]) Q a σ := id rfl
@[go_sem] theorem c37_2_wp (P : Program) (Q : APost) (a : AFr) (σ : ASt) : c37_2.wp P Q a σ = ACode.wp P (.seq c37_1 .ret) Q a σ := id rfl
@[go_sem] theorem c37_3_wp (P : Program) (Q : APost) (a : AFr) (σ : ASt) : c37_3.wp P Q a σ = ACode.wp P (.seq c37_0 c37_2) Q a σ := id rfl
def c37 : AFn := ⟨7, [.t 2], c37_3⟩
set_option maxRecDepth 100000 in
theorem c37_ok : compF Try.prog Try.f37 = some c37 := by kernel_rfl
theorem a37 {args : List AV} {σ : ASt} {R : AV → ASt → Prop} (hl : args.length ≤ 7) (h : c37_3.wp Try.prog (RetQ [.t 2] R) (init args) σ) : ACalls Try.prog 37 args σ R := acalls_of Try.func37 c37_ok hl h

/-! 40: (*tabular/vint.Writer).Uint -/
def c40_0 : ACode := .ops [
    ⟨(some 4), none, .q (.mv (.t 1)), []⟩,
    ⟨(some 5), none, .q (.bin .gtr (.t 4) (.v (.int .u64 127))), []⟩]
def c40_1 : ACode := .cond (.t 5) .skip (.exit 0)
def c40_2 : ACode := .seq c40_0 c40_1
def c40_3 : ACode := .ops [
    ⟨(some 8), none, .q (.mv (.t 0)), []⟩,
    ⟨(some 9), none, .q (.mv (.t 0)), []⟩,
    ⟨(some 10), none, .q (.nc (.t 9)), []⟩,
    ⟨(some 11), none, .q (.fa 0 (.t 10)), []⟩,
    ⟨(some 12), none, .q (.ld none (.t 11)), []⟩,
    ⟨(some 13), none, .q (.mv (.t 1)), []⟩,
    ⟨(some 14), none, .q (.conv .u8 (.t 13)), []⟩,
    ⟨(some 15), none, .q (.bin .or (.t 14) (.v (.int .u8 128))), []⟩,
    ⟨(some 16), none, .q (.bsl 1 [(.t 15)]), []⟩,
    ⟨(some 17), none, .e (.app 1 1 [(.int .u8 0)] (.t 12) (.t 16)), []⟩,
    ⟨(some 18), none, .q (.nc (.t 8)), []⟩,
    ⟨(some 19), none, .q (.fa 0 (.t 18)), []⟩,
    ⟨none, none, .e (.store 1 (.t 19) (.t 17)), []⟩]
def c40_4 : ACode := .block 1 c40_3
def c40_5 : ACode := .ops [
    ⟨(some 6), none, .q (.mv (.t 1)), []⟩,
    ⟨(some 7), none, .q (.bin .shr (.t 6) (.v (.int .u64 7))), []⟩,
    ⟨(some 1), none, .q (.mv (.t 7)), []⟩]
def c40_6 : ACode := .seq c40_4 c40_5
def c40_7 : ACode := .seq c40_2 c40_6
def c40_8 : ACode := .loop c40_7
def c40_9 : ACode := .block 0 c40_8
def c40_10 : ACode := .ops [
    ⟨(some 20), none, .q (.mv (.t 0)), []⟩,
    ⟨(some 21), none, .q (.mv (.t 0)), []⟩,
    ⟨(some 22), none, .q (.nc (.t 21)), []⟩,
    ⟨(some 23), none, .q (.fa 0 (.t 22)), []⟩,
    ⟨(some 24), none, .q (.ld none (.t 23)), []⟩,
    ⟨(some 25), none, .q (.mv (.t 1)), []⟩,
    ⟨(some 26), none, .q (.conv .u8 (.t 25)), []⟩,
    ⟨(some 27), none, .q (.bsl 1 [(.t 26)]), []⟩,
    ⟨(some 28), none, .e (.app 1 1 [(.int .u8 0)] (.t 24) (.t 27)), []⟩,
    ⟨(some 29), none, .q (.nc (.t 20)), []⟩,
    ⟨(some 30), none, .q (.fa 0 (.t 29)), []⟩,
    ⟨none, none, .e (.store 1 (.t 30) (.t 28)), []⟩]
def c40_11 : ACode := .seq c40_9 c40_10
@[go_sem] theorem c40_0_wp (P : Program) (Q : APost) (a : AFr) (σ : ASt) : c40_0.wp P Q a σ = ACode.wp P (.ops [
    ⟨(some 4), none, .q (.mv (.t 1)), []⟩,
    ⟨(some 5), none, .q (.bin .gtr (.t 4) (.v (.int .u64 127))), []⟩]) Q a σ := id rfl
@[go_sem] theorem c40_1_wp (P : Program) (Q : APost) (a : AFr) (σ : ASt) : c40_1.wp P Q a σ = ACode.wp P (.cond (.t 5) .skip (.exit 0)) Q a σ := id rfl
@[go_sem] theorem c40_2_wp (P : Program) (Q : APost) (a : AFr) (σ : ASt) : c40_2.wp P Q a σ = ACode.wp P (.seq c40_0 c40_1) Q a σ := id rfl
@[go_sem] theorem c40_3_wp (P : Program) (Q : APost) (a : AFr) (σ : ASt) : c40_3.wp P Q a σ = ACode.wp P (.ops [
    ⟨(some 8), none, .q (.mv (.t 0)), []⟩,
    ⟨(some 9), none, .q (.mv (.t 0)), []⟩,
    ⟨(some 10), none, .q (.nc (.t 9)), []⟩,
    ⟨(some 11), none, .q (.fa 0 (.t 10)), []⟩,
    ⟨(some 12), none, .q (.ld none (.t 11)), []⟩,
    ⟨(some 13), none, .q (.mv (.t 1)), []⟩,
    ⟨(some 14), none, .q (.conv .u8 (.t 13)), []⟩,
    ⟨(some 15), none, .q (.bin .or (.t 14) (.v (.int .u8 128))), []⟩,
    ⟨(some 16), none, .q (.bsl 1 [(.t 15)]), []⟩,
    ⟨(some 17), none, .e (.app 1 1 [(.int .u8 0)] (.t 12) (.t 16)), []⟩,
    ⟨(some 18), none, .q (.nc (.t 8)), []⟩,
    ⟨(some 19), none, .q (.fa 0 (.t 18)), []⟩,
    ⟨none, none, .e (.store 1 (.t 19) (.t 17)), []⟩]) Q a σ := id rfl
@[go_sem] theorem c40_4_wp (P : Program) (Q : APost) (a : AFr) (σ : ASt) : c40_4.wp P Q a σ = ACode.wp P (.block 1 c40_3) Q a σ := id rfl
@[go_sem] theorem c40_5_wp (P : Program) (Q : APost) (a : AFr) (σ : ASt) : c40_5.wp P Q a σ = ACode.wp P (.ops [
    ⟨(some 6), none, .q (.mv (.t 1)), []⟩,
    ⟨(some 7), none, .q (.bin .shr (.t 6) (.v (.int .u64 7))), []⟩,
    ⟨(some 1), none, .q (.mv (.t 7)), []⟩]) Q a σ := id rfl
@[go_sem] theorem c40_6_wp (P : Program) (Q : APost) (a : AFr) (σ : ASt) : c40_6.wp P Q a σ = ACode.wp P (.seq c40_4 c40_5) Q a σ := id rfl
@[go_sem] theorem c40_7_wp (P : Program) (Q : APost) (a : AFr) (σ : ASt) : c40_7.wp P Q a σ = ACode.wp P (.seq c40_2 c40_6) Q a σ := id rfl
@[go_sem] theorem c40_8_wp (P : Program) (Q : APost) (a : AFr) (σ : ASt) : c40_8.wp P Q a σ = ACode.wp P (.loop c40_7) Q a σ := id rfl
@[go_sem] theorem c40_9_wp (P : Program) (Q : APost) (a : AFr) (σ : ASt) : c40_9.wp P Q a σ = ACode.wp P (.block 0 c40_8) Q a σ := id rfl
@[go_sem] theorem c40_10_wp (P : Program) (Q : APost) (a : AFr) (σ : ASt) : c40_10.wp P Q a σ = ACode.wp P (.ops [
    ⟨(some 20), none, .q (.mv (.t 0)), []⟩,
    ⟨(some 21), none, .q (.mv (.t 0)), []⟩,
    ⟨(some 22), none, .q (.nc (.t 21)), []⟩,
    ⟨(some 23), none, .q (.fa 0 (.t 22)), []⟩,
    ⟨(some 24), none, .q (.ld none (.t 23)), []⟩,
    ⟨(some 25), none, .q (.mv (.t 1)), []⟩,
    ⟨(some 26), none, .q (.conv .u8 (.t 25)), []⟩,
    ⟨(some 27), none, .q (.bsl 1 [(.t 26)]), []⟩,
    ⟨(some 28), none, .e (.app 1 1 [(.int .u8 0)] (.t 24) (.t 27)), []⟩,
    ⟨(some 29), none, .q (.nc (.t 20)), []⟩,
    ⟨(some 30), none, .q (.fa 0 (.t 29)), []⟩,
    ⟨none, none, .e (.store 1 (.t 30) (.t 28)), []⟩]) Q a σ := id rfl
@[go_sem] theorem c40_11_wp (P : Program) (Q : APost) (a : AFr) (σ : ASt) : c40_11.wp P Q a σ = ACode.wp P (.seq c40_9 c40_10) Q a σ := id rfl
def c40 : AFn := ⟨31, [], c40_11⟩
set_option maxRecDepth 100000 in
theorem c40_ok : compF Try.prog Try.f40 = some c40 := by kernel_rfl
theorem a40 {args : List AV} {σ : ASt} {R : AV → ASt → Prop} (hl : args.length ≤ 31) (h : c40_11.wp Try.prog (RetQ [] R) (init args) σ) : ACalls Try.prog 40 args σ R := acalls_of Try.func40 c40_ok hl h

/-! 41: (*tabular/vint.Writer).Int -/
def c41_0 : ACode := .ops [
    ⟨(some 4), none, .q (.mv (.t 0)), []⟩,
    ⟨(some 5), none, .q (.mv (.t 1)), []⟩,
    ⟨(some 6), none, .q (.conv .u64 (.t 5)), []⟩,
    ⟨(some 7), none, .q (.bin .shl (.t 6) (.v (.int .u64 1))), []⟩,
    ⟨(some 8), none, .q (.mv (.t 1)), []⟩,
    ⟨(some 9), none, .q (.bin .shr (.t 8) (.v (.int .u64 63))), []⟩,
    ⟨(some 10), none, .q (.conv .u64 (.t 9)), []⟩,
    ⟨(some 11), none, .q (.bin .xor (.t 7) (.t 10)), []⟩,
    ⟨(some 12), none, .e (.call 40 [(.t 4), (.t 11)]), []⟩]
@[go_sem] theorem c41_0_wp (P : Program) (Q : APost) (a : AFr) (σ : ASt) : c41_0.wp P Q a σ = ACode.wp P (.ops [
    ⟨(some 4), none, .q (.mv (.t 0)), []⟩,
    ⟨(some 5), none, .q (.mv (.t 1)), []⟩,
    ⟨(some 6), none, .q (.conv .u64 (.t 5)), []⟩,
    ⟨(some 7), none, .q (.bin .shl (.t 6) (.v (.int .u64 1))), []⟩,
    ⟨(some 8), none, .q (.mv (.t 1)), []⟩,
    ⟨(some 9), none, .q (.bin .shr (.t 8) (.v (.int .u64 63))), []⟩,
    ⟨(some 10), none, .q (.conv .u64 (.t 9)), []⟩,
    ⟨(some 11), none, .q (.bin .xor (.t 7) (.t 10)), []⟩,
    ⟨(some 12), none, .e (.call 40 [(.t 4), (.t 11)]), []⟩]) Q a σ := id rfl
def c41 : AFn := ⟨13, [], c41_0⟩
set_option maxRecDepth 100000 in
theorem c41_ok : compF Try.prog Try.f41 = some c41 := by kernel_rfl
theorem a41 {args : List AV} {σ : ASt} {R : AV → ASt → Prop} (hl : args.length ≤ 13) (h : c41_0.wp Try.prog (RetQ [] R) (init args) σ) : ACalls Try.prog 41 args σ R := acalls_of Try.func41 c41_ok hl h

/-! 43: (*tabular/vint.Writer).Text -/
def c43_0 : ACode := .ops [
    ⟨(some 4), none, .q (.mv (.t 0)), []⟩,
    ⟨(some 5), none, .q (.mv (.t 1)), []⟩,
    ⟨(some 6), none, .q (.lenS (.t 5)), []⟩,
    ⟨(some 7), none, .q (.conv .u64 (.t 6)), []⟩,
    ⟨(some 8), none, .e (.call 40 [(.t 4), (.t 7)]), []⟩]
def c43_1 : ACode := .ops [
    ⟨(some 9), none, .q (.mv (.t 0)), []⟩,
    ⟨(some 10), none, .q (.mv (.t 0)), []⟩,
    ⟨(some 11), none, .q (.nc (.t 10)), []⟩,
    ⟨(some 12), none, .q (.fa 0 (.t 11)), []⟩,
    ⟨(some 13), none, .q (.ld none (.t 12)), []⟩,
    ⟨(some 14), none, .q (.mv (.t 1)), []⟩,
    ⟨(some 15), none, .e (.apps (.t 13) (.t 14)), []⟩,
    ⟨(some 16), none, .q (.nc (.t 9)), []⟩,
    ⟨(some 17), none, .q (.fa 0 (.t 16)), []⟩,
    ⟨none, none, .e (.store 1 (.t 17) (.t 15)), []⟩]
def c43_2 : ACode := .seq c43_0 c43_1
@[go_sem] theorem c43_0_wp (P : Program) (Q : APost) (a : AFr) (σ : ASt) : c43_0.wp P Q a σ = ACode.wp P (.ops [
    ⟨(some 4), none, .q (.mv (.t 0)), []⟩,
    ⟨(some 5), none, .q (.mv (.t 1)), []⟩,
    ⟨(some 6), none, .q (.lenS (.t 5)), []⟩,
    ⟨(some 7), none, .q (.conv .u64 (.t 6)), []⟩,
    ⟨(some 8), none, .e (.call 40 [(.t 4), (.t 7)]), []⟩]) Q a σ := id rfl
@[go_sem] theorem c43_1_wp (P : Program) (Q : APost) (a : AFr) (σ : ASt) : c43_1.wp P Q a σ = ACode.wp P (.ops [
    ⟨(some 9), none, .q (.mv (.t 0)), []⟩,
    ⟨(some 10), none, .q (.mv (.t 0)), []⟩,
    ⟨(some 11), none, .q (.nc (.t 10)), []⟩,
    ⟨(some 12), none, .q (.fa 0 (.t 11)), []⟩,
    ⟨(some 13), none, .q (.ld none (.t 12)), []⟩,
    ⟨(some 14), none, .q (.mv (.t 1)), []⟩,
    ⟨(some 15), none, .e (.apps (.t 13) (.t 14)), []⟩,
    ⟨(some 16), none, .q (.nc (.t 9)), []⟩,
    ⟨(some 17), none, .q (.fa 0 (.t 16)), []⟩,
    ⟨none, none, .e (.store 1 (.t 17) (.t 15)), []⟩]) Q a σ := id rfl
@[go_sem] theorem c43_2_wp (P : Program) (Q : APost) (a : AFr) (σ : ASt) : c43_2.wp P Q a σ = ACode.wp P (.seq c43_0 c43_1) Q a σ := id rfl
def c43 : AFn := ⟨18, [], c43_2⟩
set_option maxRecDepth 100000 in
theorem c43_ok : compF Try.prog Try.f43 = some c43 := by kernel_rfl
theorem a43 {args : List AV} {σ : ASt} {R : AV → ASt → Prop} (hl : args.length ≤ 18) (h : c43_2.wp Try.prog (RetQ [] R) (init args) σ) : ACalls Try.prog 43 args σ R := acalls_of Try.func43 c43_ok hl h

/-! 45: (*tabular/vint.Writer).Rising -/
def c45_0 : ACode := .ops [
    ⟨(some 6), none, .q (.mv (.t 0)), []⟩,
    ⟨(some 7), none, .q (.mv (.t 1)), []⟩,
    ⟨(some 8), none, .q (.len (.t 7)), []⟩,
    ⟨(some 9), none, .q (.conv .u64 (.t 8)), []⟩,
    ⟨(some 10), none, .e (.call 40 [(.t 6), (.t 9)]), []⟩]
def c45_1 : ACode := .ops [
    ⟨(some 11), none, .q (.mv (.t 1)), []⟩,
    ⟨(some 12), none, .q (.len (.t 11)), []⟩,
    ⟨(some 13), none, .q (.mv (.v (.int .i64 0))), []⟩]
def c45_2 : ACode := .ops [
    ⟨(some 14), none, .q (.bin .lss (.t 13) (.t 12)), []⟩]
def c45_3 : ACode := .cond (.t 14) .skip (.exit 0)
def c45_4 : ACode := .ops [
    ⟨(some 15), none, .q (.mv (.t 13)), []⟩,
    ⟨(some 16), none, .q (.ia 1 (.t 11) (.t 13)), []⟩,
    ⟨(some 17), none, .q (.ld none (.t 16)), []⟩,
    ⟨(some 4), none, .q (.mv (.t 15)), []⟩,
    ⟨(some 5), none, .q (.mv (.t 17)), []⟩]
def c45_5 : ACode := .ops [
    ⟨(some 18), none, .q (.mv (.t 4)), []⟩,
    ⟨(some 19), none, .q (.bin .eql (.t 18) (.v (.int .i64 0))), []⟩]
def c45_6 : ACode := .ops [
    ⟨(some 20), none, .q (.mv (.t 0)), []⟩,
    ⟨(some 21), none, .q (.mv (.t 5)), []⟩,
    ⟨(some 22), none, .e (.call 40 [(.t 20), (.t 21)]), []⟩]
def c45_7 : ACode := .ops [
    ⟨(some 23), none, .q (.mv (.t 0)), []⟩,
    ⟨(some 24), none, .q (.mv (.t 5)), []⟩,
    ⟨(some 25), none, .q (.mv (.t 1)), []⟩,
    ⟨(some 26), none, .q (.mv (.t 4)), []⟩,
    ⟨(some 27), none, .q (.bin .sub (.t 26) (.v (.int .i64 1))), []⟩,
    ⟨(some 28), none, .q (.ia 1 (.t 25) (.t 27)), []⟩,
    ⟨(some 29), none, .q (.ld none (.t 28)), []⟩,
    ⟨(some 30), none, .q (.bin .sub (.t 24) (.t 29)), []⟩,
    ⟨(some 31), none, .q (.bin .sub (.t 30) (.v (.int .u64 1))), []⟩,
    ⟨(some 32), none, .e (.call 40 [(.t 23), (.t 31)]), []⟩]
def c45_8 : ACode := .cond (.t 19) c45_6 c45_7
def c45_9 : ACode := .seq c45_5 c45_8
def c45_10 : ACode := .seq c45_4 c45_9
def c45_11 : ACode := .block 1 c45_10
def c45_12 : ACode := .ops [
    ⟨(some 33), none, .q (.bin .add (.t 13) (.v (.int .i64 1))), []⟩,
    ⟨(some 13), none, .q (.mv (.t 33)), []⟩]
def c45_13 : ACode := .seq c45_11 c45_12
def c45_14 : ACode := .seq c45_3 c45_13
def c45_15 : ACode := .seq c45_2 c45_14
def c45_16 : ACode := .loop c45_15
def c45_17 : ACode := .block 0 c45_16
def c45_18 : ACode := .seq c45_1 c45_17
def c45_19 : ACode := .seq c45_0 c45_18
@[go_sem] theorem c45_0_wp (P : Program) (Q : APost) (a : AFr) (σ : ASt) : c45_0.wp P Q a σ = ACode.wp P (.ops [
    ⟨(some 6), none, .q (.mv (.t 0)), []⟩,
    ⟨(some 7), none, .q (.mv (.t 1)), []⟩,
    ⟨(some 8), none, .q (.len (.t 7)), []⟩,
    ⟨(some 9), none, .q (.conv .u64 (.t 8)), []⟩,
    ⟨(some 10), none, .e (.call 40 [(.t 6), (.t 9)]), []⟩]) Q a σ := id rfl
@[go_sem] theorem c45_1_wp (P : Program) (Q : APost) (a : AFr) (σ : ASt) : c45_1.wp P Q a σ = ACode.wp P (.ops [
    ⟨(some 11), none, .q (.mv (.t 1)), []⟩,
    ⟨(some 12), none, .q (.len (.t 11)), []⟩,
    ⟨(some 13), none, .q (.mv (.v (.int .i64 0))), []⟩]) Q a σ := id rfl
@[go_sem] theorem c45_2_wp (P : Program) (Q : APost) (a : AFr) (σ : ASt) : c45_2.wp P Q a σ = ACode.wp P (.ops [
    ⟨(some 14), none, .q (.bin .lss (.t 13) (.t 12)), []⟩]) Q a σ := id rfl
@[go_sem] theorem c45_3_wp (P : Program) (Q : APost) (a : AFr) (σ : ASt) : c45_3.wp P Q a σ = ACode.wp P (.cond (.t 14) .skip (.exit 0)) Q a σ := id rfl
@[go_sem] theorem c45_4_wp (P : Program) (Q : APost) (a : AFr) (σ : ASt) : c45_4.wp P Q a σ = ACode.wp P (.ops [
    ⟨(some 15), none, .q (.mv (.t 13)), []⟩,
    ⟨(some 16), none, .q (.ia 1 (.t 11) (.t 13)), []⟩,
    ⟨(some 17), none, .q (.ld none (.t 16)), []⟩,
    ⟨(some 4), none, .q (.mv (.t 15)), []⟩,
    ⟨(some 5), none, .q (.mv (.t 17)), []⟩]) Q a σ := id rfl
@[go_sem] theorem c45_5_wp (P : Program) (Q : APost) (a : AFr) (σ : ASt) : c45_5.wp P Q a σ = ACode.wp P (.ops [
    ⟨(some 18), none, .q (.mv (.t 4)), []⟩,
    ⟨(some 19), none, .q (.bin .eql (.t 18) (.v (.int .i64 0))), []⟩]) Q a σ := id rfl
@[go_sem] theorem c45_6_wp (P : Program) (Q : APost) (a : AFr) (σ : ASt) : c45_6.wp P Q a σ = ACode.wp P (.ops [
    ⟨(some 20), none, .q (.mv (.t 0)), []⟩,
    ⟨(some 21), none, .q (.mv (.t 5)), []⟩,
    ⟨(some 22), none, .e (.call 40 [(.t 20), (.t 21)]), []⟩]) Q a σ := id rfl
@[go_sem] theorem c45_7_wp (P : Program) (Q : APost) (a : AFr) (σ : ASt) : c45_7.wp P Q a σ = ACode.wp P (.ops [
    ⟨(some 23), none, .q (.mv (.t 0)), []⟩,
    ⟨(some 24), none, .q (.mv (.t 5)), []⟩,
    ⟨(some 25), none, .q (.mv (.t 1)), []⟩,
    ⟨(some 26), none, .q (.mv (.t 4)), []⟩,
    ⟨(some 27), none, .q (.bin .sub (.t 26) (.v (.int .i64 1))), []⟩,
    ⟨(some 28), none, .q (.ia 1 (.t 25) (.t 27)), []⟩,
    ⟨(some 29), none, .q (.ld none (.t 28)), []⟩,
    ⟨(some 30), none, .q (.bin .sub (.t 24) (.t 29)), []⟩,
    ⟨(some 31), none, .q (.bin .sub (.t 30) (.v (.int .u64 1))), []⟩,
    ⟨(some 32), none, .e (.call 40 [(.t 23), (.t 31)]), []⟩]) Q a σ := id rfl
@[go_sem] theorem c45_8_wp (P : Program) (Q : APost) (a : AFr) (σ : ASt) : c45_8.wp P Q a σ = ACode.wp P (.cond (.t 19) c45_6 c45_7) Q a σ := id rfl
@[go_sem] theorem c45_9_wp (P : Program) (Q : APost) (a : AFr) (σ : ASt) : c45_9.wp P Q a σ = ACode.wp P (.seq c45_5 c45_8) Q a σ := id rfl
@[go_sem] theorem c45_10_wp (P : Program) (Q : APost) (a : AFr) (σ : ASt) : c45_10.wp P Q a σ = ACode.wp P (.seq c45_4 c45_9) Q a σ := id rfl
@[go_sem] theorem c45_11_wp (P : Program) (Q : APost) (a : AFr) (σ : ASt) : c45_11.wp P Q a σ = ACode.wp P (.block 1 c45_10) Q a σ := id rfl
@[go_sem] theorem c45_12_wp (P : Program) (Q : APost) (a : AFr) (σ : ASt) : c45_12.wp P Q a σ = ACode.wp P (.ops [
    ⟨(some 33), none, .q (.bin .add (.t 13) (.v (.int .i64 1))), []⟩,
    ⟨(some 13), none, .q (.mv (.t 33)), []⟩]) Q a σ := id rfl
@[go_sem] theorem c45_13_wp (P : Program) (Q : APost) (a : AFr) (σ : ASt) : c45_13.wp P Q a σ = ACode.wp P (.seq c45_11 c45_12) Q a σ := id rfl
@[go_sem] theorem c45_14_wp (P : Program) (Q : APost) (a : AFr) (σ : ASt) : c45_14.wp P Q a σ = ACode.wp P (.seq c45_3 c45_13) Q a σ := id rfl
@[go_sem] theorem c45_15_wp (P : Program) (Q : APost) (a : AFr) (σ : ASt) : c45_15.wp P Q a σ = ACode.wp P (.seq c45_2 c45_14) Q a σ := id rfl
@[go_sem] theorem c45_16_wp (P : Program) (Q : APost) (a : AFr) (σ : ASt) : c45_16.wp P Q a σ = ACode.wp P (.loop c45_15) Q a σ := id rfl
@[go_sem] theorem c45_17_wp (P : Program) (Q : APost) (a : AFr) (σ : ASt) : c45_17.wp P Q a σ = ACode.wp P (.block 0 c45_16) Q a σ := id rfl
@[go_sem] theorem c45_18_wp (P : Program) (Q : APost) (a : AFr) (σ : ASt) : c45_18.wp P Q a σ = ACode.wp P (.seq c45_1 c45_17) Q a σ := id rfl
@[go_sem] theorem c45_19_wp (P : Program) (Q : APost) (a : AFr) (σ : ASt) : c45_19.wp P Q a σ = ACode.wp P (.seq c45_0 c45_18) Q a σ := id rfl
def c45 : AFn := ⟨34, [], c45_19⟩
set_option maxRecDepth 100000 in
theorem c45_ok : compF Try.prog Try.f45 = some c45 := by kernel_rfl
theorem a45 {args : List AV} {σ : ASt} {R : AV → ASt → Prop} (hl : args.length ≤ 34) (h : c45_19.wp Try.prog (RetQ [] R) (init args) σ) : ACalls Try.prog 45 args σ R := acalls_of Try.func45 c45_ok hl h

/-! 46: (*tabular/vint.Writer).Spans -/
def c46_0 : ACode := .ops [
    ⟨(some 7), none, .q (.mv (.t 0)), []⟩,
    ⟨(some 8), none, .q (.mv (.t 1)), []⟩,
    ⟨(some 9), none, .q (.len (.t 8)), []⟩,
    ⟨(some 10), none, .q (.conv .u64 (.t 9)), []⟩,
    ⟨(some 11), none, .e (.call 40 [(.t 7), (.t 10)]), []⟩]
def c46_1 : ACode := .ops [
    ⟨(some 4), none, .q (.mv (.v (.int .u64 0))), []⟩]
def c46_2 : ACode := .ops [
    ⟨(some 12), none, .q (.mv (.t 1)), []⟩,
    ⟨(some 13), none, .q (.len (.t 12)), []⟩,
    ⟨(some 14), none, .q (.mv (.v (.int .i64 0))), []⟩]
def c46_3 : ACode := .ops [
    ⟨(some 15), none, .q (.bin .lss (.t 14) (.t 13)), []⟩]
def c46_4 : ACode := .cond (.t 15) .skip (.exit 0)
def c46_5 : ACode := .ops [
    ⟨(some 16), none, .q (.mv (.t 14)), []⟩,
    ⟨(some 17), none, .q (.ia 2 (.t 12) (.t 14)), []⟩,
    ⟨(some 18), none, .q (.ld (some 2) (.t 17)), []⟩,
    ⟨(some 6), none, .e (.alloc [(.int .u64 0), (.int .u64 0)]), []⟩,
    ⟨(some 5), none, .q (.mv (.t 16)), []⟩,
    ⟨none, none, .e (.store 2 (.t 6) (.t 18)), []⟩]
def c46_6 : ACode := .ops [
    ⟨(some 19), none, .q (.mv (.t 5)), []⟩,
    ⟨(some 20), none, .q (.bin .eql (.t 19) (.v (.int .i64 0))), []⟩]
def c46_7 : ACode := .ops [
    ⟨(some 21), none, .q (.mv (.t 0)), []⟩,
    ⟨(some 22), none, .q (.fa 0 (.t 6)), []⟩,
    ⟨(some 23), none, .q (.ld none (.t 22)), []⟩,
    ⟨(some 24), none, .e (.call 40 [(.t 21), (.t 23)]), []⟩]
def c46_8 : ACode := .ops [
    ⟨(some 25), none, .q (.mv (.t 0)), []⟩,
    ⟨(some 26), none, .q (.fa 0 (.t 6)), []⟩,
    ⟨(some 27), none, .q (.ld none (.t 26)), []⟩,
    ⟨(some 28), none, .q (.mv (.t 4)), []⟩,
    ⟨(some 29), none, .q (.bin .sub (.t 27) (.t 28)), []⟩,
    ⟨(some 30), none, .q (.bin .sub (.t 29) (.v (.int .u64 1))), []⟩,
    ⟨(some 31), none, .e (.call 40 [(.t 25), (.t 30)]), []⟩]
def c46_9 : ACode := .cond (.t 20) c46_7 c46_8
def c46_10 : ACode := .seq c46_6 c46_9
def c46_11 : ACode := .ops [
    ⟨(some 32), none, .q (.mv (.t 0)), []⟩,
    ⟨(some 33), none, .q (.fa 1 (.t 6)), []⟩,
    ⟨(some 34), none, .q (.ld none (.t 33)), []⟩,
    ⟨(some 35), none, .q (.fa 0 (.t 6)), []⟩,
    ⟨(some 36), none, .q (.ld none (.t 35)), []⟩,
    ⟨(some 37), none, .q (.bin .sub (.t 34) (.t 36)), []⟩,
    ⟨(some 38), none, .q (.bin .sub (.t 37) (.v (.int .u64 1))), []⟩,
    ⟨(some 39), none, .e (.call 40 [(.t 32), (.t 38)]), []⟩]
def c46_12 : ACode := .ops [
    ⟨(some 40), none, .q (.fa 1 (.t 6)), []⟩,
    ⟨(some 41), none, .q (.ld none (.t 40)), []⟩,
    ⟨(some 4), none, .q (.mv (.t 41)), []⟩]
def c46_13 : ACode := .seq c46_11 c46_12
def c46_14 : ACode := .seq c46_10 c46_13
def c46_15 : ACode := .seq c46_5 c46_14
def c46_16 : ACode := .block 1 c46_15
def c46_17 : ACode := .ops [
    ⟨(some 42), none, .q (.bin .add (.t 14) (.v (.int .i64 1))), []⟩,
    ⟨(some 14), none, .q (.mv (.t 42)), []⟩]
def c46_18 : ACode := .seq c46_16 c46_17
def c46_19 : ACode := .seq c46_4 c46_18
def c46_20 : ACode := .seq c46_3 c46_19
def c46_21 : ACode := .loop c46_20
def c46_22 : ACode := .block 0 c46_21
def c46_23 : ACode := .seq c46_2 c46_22
def c46_24 : ACode := .seq c46_1 c46_23
def c46_25 : ACode := .seq c46_0 c46_24
@[go_sem] theorem c46_0_wp (P : Program) (Q : APost) (a : AFr) (σ : ASt) : c46_0.wp P Q a σ = ACode.wp P (.ops [
    ⟨(some 7), none, .q (.mv (.t 0)), []⟩,
    ⟨(some 8), none, .q (.mv (.t 1)), []⟩,
    ⟨(some 9), none, .q (.len (.t 8)), []⟩,
    ⟨(some 10), none, .q (.conv .u64 (.t 9)), []⟩,
    ⟨(some 11), none, .e (.call 40 [(.t 7), (.t 10)]), []⟩]) Q a σ := id rfl
@[go_sem] theorem c46_1_wp (P : Program) (Q : APost) (a : AFr) (σ : ASt) : c46_1.wp P Q a σ = ACode.wp P (.ops [
    ⟨(some 4), none, .q (.mv (.v (.int .u64 0))), []⟩]) Q a σ := id rfl
@[go_sem] theorem c46_2_wp (P : Program) (Q : APost) (a : AFr) (σ : ASt) : c46_2.wp P Q a σ = ACode.wp P (.ops [
    ⟨(some 12), none, .q (.mv (.t 1)), []⟩,
    ⟨(some 13), none, .q (.len (.t 12)), []⟩,
    ⟨(some 14), none, .q (.mv (.v (.int .i64 0))), []⟩]) Q a σ := id rfl
@[go_sem] theorem c46_3_wp (P : Program) (Q : APost) (a : AFr) (σ : ASt) : c46_3.wp P Q a σ = ACode.wp P (.ops [
    ⟨(some 15), none, .q (.bin .lss (.t 14) (.t 13)), []⟩]) Q a σ := id rfl
@[go_sem] theorem c46_4_wp (P : Program) (Q : APost) (a : AFr) (σ : ASt) : c46_4.wp P Q a σ = ACode.wp P (.cond (.t 15) .skip (.exit 0)) Q a σ := id rfl
@[go_sem] theorem c46_5_wp (P : Program) (Q : APost) (a : AFr) (σ : ASt) : c46_5.wp P Q a σ = ACode.wp P (.ops [
    ⟨(some 16), none, .q (.mv (.t 14)), []⟩,
    ⟨(some 17), none, .q (.ia 2 (.t 12) (.t 14)), []⟩,
    ⟨(some 18), none, .q (.ld (some 2) (.t 17)), []⟩,
    ⟨(some 6), none, .e (.alloc [(.int .u64 0), (.int .u64 0)]), []⟩,
    ⟨(some 5), none, .q (.mv (.t 16)), []⟩,
    ⟨none, none, .e (.store 2 (.t 6) (.t 18)), []⟩]) Q a σ := id rfl
@[go_sem] theorem c46_6_wp (P : Program) (Q : APost) (a : AFr) (σ : ASt) : c46_6.wp P Q a σ = ACode.wp P (.ops [
    ⟨(some 19), none, .q (.mv (.t 5)), []⟩,
    ⟨(some 20), none, .q (.bin .eql (.t 19) (.v (.int .i64 0))), []⟩]) Q a σ := id rfl
@[go_sem] theorem c46_7_wp (P : Program) (Q : APost) (a : AFr) (σ : ASt) : c46_7.wp P Q a σ = ACode.wp P (.ops [
    ⟨(some 21), none, .q (.mv (.t 0)), []⟩,
    ⟨(some 22), none, .q (.fa 0 (.t 6)), []⟩,
    ⟨(some 23), none, .q (.ld none (.t 22)), []⟩,
    ⟨(some 24), none, .e (.call 40 [(.t 21), (.t 23)]), []⟩]) Q a σ := id rfl
@[go_sem] theorem c46_8_wp (P : Program) (Q : APost) (a : AFr) (σ : ASt) : c46_8.wp P Q a σ = ACode.wp P (.ops [
    ⟨(some 25), none, .q (.mv (.t 0)), []⟩,
    ⟨(some 26), none, .q (.fa 0 (.t 6)), []⟩,
    ⟨(some 27), none, .q (.ld none (.t 26)), []⟩,
    ⟨(some 28), none, .q (.mv (.t 4)), []⟩,
    ⟨(some 29), none, .q (.bin .sub (.t 27) (.t 28)), []⟩,
    ⟨(some 30), none, .q (.bin .sub (.t 29) (.v (.int .u64 1))), []⟩,
    ⟨(some 31), none, .e (.call 40 [(.t 25), (.t 30)]), []⟩]) Q a σ := id rfl
@[go_sem] theorem c46_9_wp (P : Program) (Q : APost) (a : AFr) (σ : ASt) : c46_9.wp P Q a σ = ACode.wp P (.cond (.t 20) c46_7 c46_8) Q a σ := id rfl
@[go_sem] theorem c46_10_wp (P : Program) (Q : APost) (a : AFr) (σ : ASt) : c46_10.wp P Q a σ = ACode.wp P (.seq c46_6 c46_9) Q a σ := id rfl
@[go_sem] theorem c46_11_wp (P : Program) (Q : APost) (a : AFr) (σ : ASt) : c46_11.wp P Q a σ = ACode.wp P (.ops [
    ⟨(some 32), none, .q (.mv (.t 0)), []⟩,
    ⟨(some 33), none, .q (.fa 1 (.t 6)), []⟩,
    ⟨(some 34), none, .q (.ld none (.t 33)), []⟩,
    ⟨(some 35), none, .q (.fa 0 (.t 6)), []⟩,
    ⟨(some 36), none, .q (.ld none (.t 35)), []⟩,
    ⟨(some 37), none, .q (.bin .sub (.t 34) (.t 36)), []⟩,
    ⟨(some 38), none, .q (.bin .sub (.t 37) (.v (.int .u64 1))), []⟩,
    ⟨(some 39), none, .e (.call 40 [(.t 32), (.t 38)]), []⟩]) Q a σ := id rfl
@[go_sem] theorem c46_12_wp (P : Program) (Q : APost) (a : AFr) (σ : ASt) : c46_12.wp P Q a σ = ACode.wp P (.ops [
    ⟨(some 40), none, .q (.fa 1 (.t 6)), []⟩,
    ⟨(some 41), none, .q (.ld none (.t 40)), []⟩,
    ⟨(some 4), none, .q (.mv (.t 41)), []⟩]) Q a σ := id rfl
@[go_sem] theorem c46_13_wp (P : Program) (Q : APost) (a : AFr) (σ : ASt) : c46_13.wp P Q a σ = ACode.wp P (.seq c46_11 c46_12) Q a σ := id rfl
@[go_sem] theorem c46_14_wp (P : Program) (Q : APost) (a : AFr) (σ : ASt) : c46_14.wp P Q a σ = ACode.wp P (.seq c46_10 c46_13) Q a σ := id rfl
@[go_sem] theorem c46_15_wp (P : Program) (Q : APost) (a : AFr) (σ : ASt) : c46_15.wp P Q a σ = ACode.wp P (.seq c46_5 c46_14) Q a σ := id rfl
@[go_sem] theorem c46_16_wp (P : Program) (Q : APost) (a : AFr) (σ : ASt) : c46_16.wp P Q a σ = ACode.wp P (.block 1 c46_15) Q a σ := id rfl
@[go_sem] theorem c46_17_wp (P : Program) (Q : APost) (a : AFr) (σ : ASt) : c46_17.wp P Q a σ = ACode.wp P (.ops [
    ⟨(some 42), none, .q (.bin .add (.t 14) (.v (.int .i64 1))), []⟩,
    ⟨(some 14), none, .q (.mv (.t 42)), []⟩]) Q a σ := id rfl
@[go_sem] theorem c46_18_wp (P : Program) (Q : APost) (a : AFr) (σ : ASt) : c46_18.wp P Q a σ = ACode.wp P (.seq c46_16 c46_17) Q a σ := id rfl
@[go_sem] theorem c46_19_wp (P : Program) (Q : APost) (a : AFr) (σ : ASt) : c46_19.wp P Q a σ = ACode.wp P (.seq c46_4 c46_18) Q a σ := id rfl
@[go_sem] theorem c46_20_wp (P : Program) (Q : APost) (a : AFr) (σ : ASt) : c46_20.wp P Q a σ = ACode.wp P (.seq c46_3 c46_19) Q a σ := id rfl
@[go_sem] theorem c46_21_wp (P : Program) (Q : APost) (a : AFr) (σ : ASt) : c46_21.wp P Q a σ = ACode.wp P (.loop c46_20) Q a σ := id rfl
@[go_sem] theorem c46_22_wp (P : Program) (Q : APost) (a : AFr) (σ : ASt) : c46_22.wp P Q a σ = ACode.wp P (.block 0 c46_21) Q a σ := id rfl
@[go_sem] theorem c46_23_wp (P : Program) (Q : APost) (a : AFr) (σ : ASt) : c46_23.wp P Q a σ = ACode.wp P (.seq c46_2 c46_22) Q a σ := id rfl
@[go_sem] theorem c46_24_wp (P : Program) (Q : APost) (a : AFr) (σ : ASt) : c46_24.wp P Q a σ = ACode.wp P (.seq c46_1 c46_23) Q a σ := id rfl
@[go_sem] theorem c46_25_wp (P : Program) (Q : APost) (a : AFr) (σ : ASt) : c46_25.wp P Q a σ = ACode.wp P (.seq c46_0 c46_24) Q a σ := id rfl
def c46 : AFn := ⟨43, [], c46_25⟩
set_option maxRecDepth 100000 in
theorem c46_ok : compF Try.prog Try.f46 = some c46 := by kernel_rfl
theorem a46 {args : List AV} {σ : ASt} {R : AV → ASt → Prop} (hl : args.length ≤ 43) (h : c46_25.wp Try.prog (RetQ [] R) (init args) σ) : ACalls Try.prog 46 args σ R := acalls_of Try.func46 c46_ok hl h

/-! 47: (*tabular/vint.Reader).At -/
def c47_0 : ACode := .ops [
    ⟨(some 2), none, .q (.mv (.v (.int .i64 0))), []⟩]
def c47_1 : ACode := .ops [
    ⟨(some 3), none, .q (.mv (.t 0)), []⟩,
    ⟨(some 4), none, .q (.nc (.t 3)), []⟩,
    ⟨(some 5), none, .q (.fa 1 (.t 4)), []⟩,
    ⟨(some 6), none, .q (.ld none (.t 5)), []⟩,
    ⟨(some 2), none, .q (.mv (.t 6)), []⟩]
def c47_2 : ACode := .seq c47_1 .ret
def c47_3 : ACode := .seq c47_0 c47_2
@[go_sem] theorem c47_0_wp (P : Program) (Q : APost) (a : AFr) (σ : ASt) : c47_0.wp P Q a σ = ACode.wp P (.ops [
    ⟨(some 2), none, .q (.mv (.v (.int .i64 0))), []⟩]) Q a σ := id rfl
@[go_sem] theorem c47_1_wp (P : Program) (Q : APost) (a : AFr) (σ : ASt) : c47_1.wp P Q a σ = ACode.wp P (.ops [
    ⟨(some 3), none, .q (.mv (.t 0)), []⟩,
    ⟨(some 4), none, .q (.nc (.t 3)), []⟩,
    ⟨(some 5), none, .q (.fa 1 (.t 4)), []⟩,
    ⟨(some 6), none, .q (.ld none (.t 5)), []⟩,
    ⟨(some 2), none, .q (.mv (.t 6)), []⟩]) Q a σ := id rfl
@[go_sem] theorem c47_2_wp (P : Program) (Q : APost) (a : AFr) (σ : ASt) : c47_2.wp P Q a σ = ACode.wp P (.seq c47_1 .ret) Q a σ := id rfl
@[go_sem] theorem c47_3_wp (P : Program) (Q : APost) (a : AFr) (σ : ASt) : c47_3.wp P Q a σ = ACode.wp P (.seq c47_0 c47_2) Q a σ := id rfl
def c47 : AFn := ⟨7, [.t 2], c47_3⟩
set_option maxRecDepth 100000 in
theorem c47_ok : compF Try.prog Try.f47 = some c47 := by kernel_rfl
theorem a47 {args : List AV} {σ : ASt} {R : AV → ASt → Prop} (hl : args.length ≤ 7) (h : c47_3.wp Try.prog (RetQ [.t 2] R) (init args) σ) : ACalls Try.prog 47 args σ R := acalls_of Try.func47 c47_ok hl h

/-! 48: (*tabular/vint.Reader).fail -/
def c48_0 : ACode := .ops [
    ⟨(some 4), none, .q (.mv (.t 0)), []⟩,
    ⟨(some 5), none, .q (.nc (.t 4)), []⟩,
    ⟨(some 6), none, .q (.fa 2 (.t 5)), []⟩,
    ⟨(some 7), none, .q (.ld none (.t 6)), []⟩,
    ⟨(some 8), none, .q (.bin .eql (.t 7) (.v (.int .i64 0))), []⟩]
def c48_1 : ACode := .ops [
    ⟨(some 9), none, .q (.mv (.t 0)), []⟩,
    ⟨(some 10), none, .q (.mv (.t 1)), []⟩,
    ⟨(some 11), none, .q (.nc (.t 9)), []⟩,
    ⟨(some 12), none, .q (.fa 2 (.t 11)), []⟩,
    ⟨none, none, .e (.store 1 (.t 12) (.t 10)), []⟩]
def c48_2 : ACode := .cond (.t 8) c48_1 .skip
def c48_3 : ACode := .seq c48_0 c48_2
@[go_sem] theorem c48_0_wp (P : Program) (Q : APost) (a : AFr) (σ : ASt) : c48_0.wp P Q a σ = ACode.wp P (.ops [
    ⟨(some 4), none, .q (.mv (.t 0)), []⟩,
    ⟨(some 5), none, .q (.nc (.t 4)), []⟩,
    ⟨(some 6), none, .q (.fa 2 (.t 5)), []⟩,
    ⟨(some 7), none, .q (.ld none (.t 6)), []⟩,
    ⟨(some 8), none, .q (.bin .eql (.t 7) (.v (.int .i64 0))), []⟩]) Q a σ := id rfl
@[go_sem] theorem c48_1_wp (P : Program) (Q : APost) (a : AFr) (σ : ASt) : c48_1.wp P Q a σ = ACode.wp P (.ops [
    ⟨(some 9), none, .q (.mv (.t 0)), []⟩,
    ⟨(some 10), none, .q (.mv (.t 1)), []⟩,
    ⟨(some 11), none, .q (.nc (.t 9)), []⟩,
    ⟨(some 12), none, .q (.fa 2 (.t 11)), []⟩,
    ⟨none, none, .e (.store 1 (.t 12) (.t 10)), []⟩]) Q a σ := id rfl
@[go_sem] theorem c48_2_wp (P : Program) (Q : APost) (a : AFr) (σ : ASt) : c48_2.wp P Q a σ = ACode.wp P (.cond (.t 8) c48_1 .skip) Q a σ := id rfl
@[go_sem] theorem c48_3_wp (P : Program) (Q : APost) (a : AFr) (σ : ASt) : c48_3.wp P Q a σ = ACode.wp P (.seq c48_0 c48_2) Q a σ := id rfl
def c48 : AFn := ⟨13, [], c48_3⟩
set_option maxRecDepth 100000 in
theorem c48_ok : compF Try.prog Try.f48 = some c48 := by kernel_rfl
theorem a48 {args : List AV} {σ : ASt} {R : AV → ASt → Prop} (hl : args.length ≤ 13) (h : c48_3.wp Try.prog (RetQ [] R) (init args) σ) : ACalls Try.prog 48 args σ R := acalls_of Try.func48 c48_ok hl h

/-! 49: (*tabular/vint.Reader).count -/
def c49_0 : ACode := .ops [
    ⟨(some 4), none, .q (.mv (.v (.int .i64 0))), []⟩]
def c49_1 : ACode := .ops [
    ⟨(some 6), none, .q (.mv (.t 0)), []⟩,
    ⟨(some 7), none, .e (.call 28 [(.t 6)]), []⟩,
    ⟨(some 5), none, .q (.mv (.t 7)), []⟩]
def c49_2 : ACode := .ops [
    ⟨(some 8), none, .q (.mv (.t 0)), []⟩,
    ⟨(some 9), none, .q (.nc (.t 8)), []⟩,
    ⟨(some 10), none, .q (.fa 2 (.t 9)), []⟩,
    ⟨(some 11), none, .q (.ld none (.t 10)), []⟩,
    ⟨(some 12), none, .q (.bin .eql (.t 11) (.v (.int .i64 0))), []⟩,
    ⟨(some 13), none, .q (.mv (.t 12)), []⟩,
    ⟨(some 14), (some (13, true)), .q (.mv (.t 5)), []⟩,
    ⟨(some 15), (some (13, true)), .q (.mv (.t 1)), []⟩,
    ⟨(some 16), (some (13, true)), .q (.mnx true (.t 15) (.v (.int .i64 0))), []⟩,
    ⟨(some 17), (some (13, true)), .q (.conv .u64 (.t 16)), []⟩,
    ⟨(some 18), (some (13, true)), .q (.bin .gtr (.t 14) (.t 17)), []⟩,
    ⟨(some 19), none, .q (.pick (.t 13) (.t 18) (.v (.bool false))), []⟩]
def c49_3 : ACode := .ops [
    ⟨(some 20), none, .q (.mv (.t 0)), []⟩,
    ⟨(some 21), none, .e (.call 48 [(.t 20), (.v (.int .i64 11))]), []⟩]
def c49_4 : ACode := .cond (.t 19) c49_3 .skip
def c49_5 : ACode := .seq c49_2 c49_4
def c49_6 : ACode := .ops [
    ⟨(some 22), none, .q (.mv (.t 0)), []⟩,
    ⟨(some 23), none, .q (.nc (.t 22)), []⟩,
    ⟨(some 24), none, .q (.fa 2 (.t 23)), []⟩,
    ⟨(some 25), none, .q (.ld none (.t 24)), []⟩,
    ⟨(some 26), none, .q (.bin .neq (.t 25) (.v (.int .i64 0))), []⟩]
def c49_7 : ACode := .ops [
    ⟨(some 4), none, .q (.mv (.v (.int .i64 0))), []⟩]
def c49_8 : ACode := .seq c49_7 .ret
def c49_9 : ACode := .cond (.t 26) c49_8 .skip
def c49_10 : ACode := .seq c49_6 c49_9
def c49_11 : ACode := .ops [
    ⟨(some 27), none, .q (.mv (.t 5)), []⟩,
    ⟨(some 28), none, .q (.conv .i64 (.t 27)), []⟩,
    ⟨(some 4), none, .q (.mv (.t 28)), []⟩]
def c49_12 : ACode := .seq c49_11 .ret
def c49_13 : ACode := .seq c49_10 c49_12
def c49_14 : ACode := .seq c49_5 c49_13
def c49_15 : ACode := .seq c49_1 c49_14
def c49_16 : ACode := .seq c49_0 c49_15
@[go_sem] theorem c49_0_wp (P : Program) (Q : APost) (a : AFr) (σ : ASt) : c49_0.wp P Q a σ = ACode.wp P (.ops [
    ⟨(some 4), none, .q (.mv (.v (.int .i64 0))), []⟩]) Q a σ := id rfl
@[go_sem] theorem c49_1_wp (P : Program) (Q : APost) (a : AFr) (σ : ASt) : c49_1.wp P Q a σ = ACode.wp P (.ops [
    ⟨(some 6), none, .q (.mv (.t 0)), []⟩,
    ⟨(some 7), none, .e (.call 28 [(.t 6)]), []⟩,
    ⟨(some 5), none, .q (.mv (.t 7)), []⟩]) Q a σ := id rfl
@[go_sem] theorem c49_2_wp (P : Program) (Q : APost) (a : AFr) (σ : ASt) : c49_2.wp P Q a σ = ACode.wp P (.ops [
    ⟨(some 8), none, .q (.mv (.t 0)), []⟩,
    ⟨(some 9), none, .q (.nc (.t 8)), []⟩,
    ⟨(some 10), none, .q (.fa 2 (.t 9)), []⟩,
    ⟨(some 11), none, .q (.ld none (.t 10)), []⟩,
    ⟨(some 12), none, .q (.bin .eql (.t 11) (.v (.int .i64 0))), []⟩,
    ⟨(some 13), none, .q (.mv (.t 12)), []⟩,
    ⟨(some 14), (some (13, true)), .q (.mv (.t 5)), []⟩,
    ⟨(some 15), (some (13, true)), .q (.mv (.t 1)), []⟩,
    ⟨(some 16), (some (13, true)), .q (.mnx true (.t 15) (.v (.int .i64 0))), []⟩,
    ⟨(some 17), (some (13, true)), .q (.conv .u64 (.t 16)), []⟩,
    ⟨(some 18), (some (13, true)), .q (.bin .gtr (.t 14) (.t 17)), []⟩,
    ⟨(some 19), none, .q (.pick (.t 13) (.t 18) (.v (.bool false))), []⟩]) Q a σ := id rfl
@[go_sem] theorem c49_3_wp (P : Program) (Q : APost) (a : AFr) (σ : ASt) : c49_3.wp P Q a σ = ACode.wp P (.ops [
    ⟨(some 20), none, .q (.mv (.t 0)), []⟩,
    ⟨(some 21), none, .e (.call 48 [(.t 20), (.v (.int .i64 11))]), []⟩]) Q a σ := id rfl
@[go_sem] theorem c49_4_wp (P : Program) (Q : APost) (a : AFr) (σ : ASt) : c49_4.wp P Q a σ = ACode.wp P (.cond (.t 19) c49_3 .skip) Q a σ := id rfl
@[go_sem] theorem c49_5_wp (P : Program) (Q : APost) (a : AFr) (σ : ASt) : c49_5.wp P Q a σ = ACode.wp P (.seq c49_2 c49_4) Q a σ := id rfl
@[go_sem] theorem c49_6_wp (P : Program) (Q : APost) (a : AFr) (σ : ASt) : c49_6.wp P Q a σ = ACode.wp P (.ops [
    ⟨(some 22), none, .q (.mv (.t 0)), []⟩,
    ⟨(some 23), none, .q (.nc (.t 22)), []⟩,
    ⟨(some 24), none, .q (.fa 2 (.t 23)), []⟩,
    ⟨(some 25), none, .q (.ld none (.t 24)), []⟩,
    ⟨(some 26), none, .q (.bin .neq (.t 25) (.v (.int .i64 0))), []⟩]) Q a σ := id rfl
@[go_sem] theorem c49_7_wp (P : Program) (Q : APost) (a : AFr) (σ : ASt) : c49_7.wp P Q a σ = ACode.wp P (.ops [
    ⟨(some 4), none, .q (.mv (.v (.int .i64 0))), []⟩]) Q a σ := id rfl
@[go_sem] theorem c49_8_wp (P : Program) (Q : APost) (a : AFr) (σ : ASt) : c49_8.wp P Q a σ = ACode.wp P (.seq c49_7 .ret) Q a σ := id rfl
@[go_sem] theorem c49_9_wp (P : Program) (Q : APost) (a : AFr) (σ : ASt) : c49_9.wp P Q a σ = ACode.wp P (.cond (.t 26) c49_8 .skip) Q a σ := id rfl
@[go_sem] theorem c49_10_wp (P : Program) (Q : APost) (a : AFr) (σ : ASt) : c49_10.wp P Q a σ = ACode.wp P (.seq c49_6 c49_9) Q a σ := id rfl
@[go_sem] theorem c49_11_wp (P : Program) (Q : APost) (a : AFr) (σ : ASt) : c49_11.wp P Q a σ = ACode.wp P (.ops [
    ⟨(some 27), none, .q (.mv (.t 5)), []⟩,
    ⟨(some 28), none, .q (.conv .i64 (.t 27)), []⟩,
    ⟨(some 4), none, .q (.mv (.t 28)), []⟩]) Q a σ := id rfl
@[go_sem] theorem c49_12_wp (P : Program) (Q : APost) (a : AFr) (σ : ASt) : c49_12.wp P Q a σ = ACode.wp P (.seq c49_11 .ret) Q a σ := id rfl
@[go_sem] theorem c49_13_wp (P : Program) (Q : APost) (a : AFr) (σ : ASt) : c49_13.wp P Q a σ = ACode.wp P (.seq c49_10 c49_12) Q a σ := id rfl
@[go_sem] theorem c49_14_wp (P : Program) (Q : APost) (a : AFr) (σ : ASt) : c49_14.wp P Q a σ = ACode.wp P (.seq c49_5 c49_13) Q a σ := id rfl
@[go_sem] theorem c49_15_wp (P : Program) (Q : APost) (a : AFr) (σ : ASt) : c49_15.wp P Q a σ = ACode.wp P (.seq c49_1 c49_14) Q a σ := id rfl
@[go_sem] theorem c49_16_wp (P : Program) (Q : APost) (a : AFr) (σ : ASt) : c49_16.wp P Q a σ = ACode.wp P (.seq c49_0 c49_15) Q a σ := id rfl
def c49 : AFn := ⟨29, [.t 4], c49_16⟩
set_option maxRecDepth 100000 in
theorem c49_ok : compF Try.prog Try.f49 = some c49 := by kernel_rfl
theorem a49 {args : List AV} {σ : ASt} {R : AV → ASt → Prop} (hl : args.length ≤ 29) (h : c49_16.wp Try.prog (RetQ [.t 4] R) (init args) σ) : ACalls Try.prog 49 args σ R := acalls_of Try.func49 c49_ok hl h

/-! 50: (*tabular/vint.Reader).after -/
def c50_0 : ACode := .ops [
    ⟨(some 4), none, .q (.mv (.v (.int .u64 0))), []⟩]
def c50_1 : ACode := .ops [
    ⟨(some 6), none, .q (.mv (.t 0)), []⟩,
    ⟨(some 7), none, .e (.call 28 [(.t 6)]), []⟩,
    ⟨(some 5), none, .q (.mv (.t 7)), []⟩]
def c50_2 : ACode := .ops [
    ⟨(some 8), none, .q (.mv (.t 0)), []⟩,
    ⟨(some 9), none, .q (.nc (.t 8)), []⟩,
    ⟨(some 10), none, .q (.fa 2 (.t 9)), []⟩,
    ⟨(some 11), none, .q (.ld none (.t 10)), []⟩,
    ⟨(some 12), none, .q (.bin .eql (.t 11) (.v (.int .i64 0))), []⟩,
    ⟨(some 13), none, .q (.mv (.t 12)), []⟩,
    ⟨(some 14), (some (13, true)), .q (.mv (.t 5)), []⟩,
    ⟨(some 15), (some (13, true)), .q (.mv (.t 1)), []⟩,
    ⟨(some 16), (some (13, true)), .q (.bin .sub (.v (.int .u64 18446744073709551615)) (.t 15)), []⟩,
    ⟨(some 17), (some (13, true)), .q (.bin .geq (.t 14) (.t 16)), []⟩,
    ⟨(some 18), none, .q (.pick (.t 13) (.t 17) (.v (.bool false))), []⟩]
def c50_3 : ACode := .ops [
    ⟨(some 19), none, .q (.mv (.t 0)), []⟩,
    ⟨(some 20), none, .e (.call 48 [(.t 19), (.v (.int .i64 3))]), []⟩]
def c50_4 : ACode := .cond (.t 18) c50_3 .skip
def c50_5 : ACode := .seq c50_2 c50_4
def c50_6 : ACode := .ops [
    ⟨(some 21), none, .q (.mv (.t 1)), []⟩,
    ⟨(some 22), none, .q (.mv (.t 5)), []⟩,
    ⟨(some 23), none, .q (.bin .add (.t 21) (.t 22)), []⟩,
    ⟨(some 24), none, .q (.bin .add (.t 23) (.v (.int .u64 1))), []⟩,
    ⟨(some 4), none, .q (.mv (.t 24)), []⟩]
def c50_7 : ACode := .seq c50_6 .ret
def c50_8 : ACode := .seq c50_5 c50_7
def c50_9 : ACode := .seq c50_1 c50_8
def c50_10 : ACode := .seq c50_0 c50_9
@[go_sem] theorem c50_0_wp (P : Program) (Q : APost) (a : AFr) (σ : ASt) : c50_0.wp P Q a σ = ACode.wp P (.ops [
    ⟨(some 4), none, .q (.mv (.v (.int .u64 0))), []⟩]) Q a σ := id rfl
@[go_sem] theorem c50_1_wp (P : Program) (Q : APost) (a : AFr) (σ : ASt) : c50_1.wp P Q a σ = ACode.wp P (.ops [
    ⟨(some 6), none, .q (.mv (.t 0)), []⟩,
    ⟨(some 7), none, .e (.call 28 [(.t 6)]), []⟩,
    ⟨(some 5), none, .q (.mv (.t 7)), []⟩]) Q a σ := id rfl
@[go_sem] theorem c50_2_wp (P : Program) (Q : APost) (a : AFr) (σ : ASt) : c50_2.wp P Q a σ = ACode.wp P (.ops [
    ⟨(some 8), none, .q (.mv (.t 0)), []⟩,
    ⟨(some 9), none, .q (.nc (.t 8)), []⟩,
    ⟨(some 10), none, .q (.fa 2 (.t 9)), []⟩,
    ⟨(some 11), none, .q (.ld none (.t 10)), []⟩,
    ⟨(some 12), none, .q (.bin .eql (.t 11) (.v (.int .i64 0))), []⟩,
    ⟨(some 13), none, .q (.mv (.t 12)), []⟩,
    ⟨(some 14), (some (13, true)), .q (.mv (.t 5)), []⟩,
    ⟨(some 15), (some (13, true)), .q (.mv (.t 1)), []⟩,
    ⟨(some 16), (some (13, true)), .q (.bin .sub (.v (.int .u64 18446744073709551615)) (.t 15)), []⟩,
    ⟨(some 17), (some (13, true)), .q (.bin .geq (.t 14) (.t 16)), []⟩,
    ⟨(some 18), none, .q (.pick (.t 13) (.t 17) (.v (.bool false))), []⟩]) Q a σ := id rfl
@[go_sem] theorem c50_3_wp (P : Program) (Q : APost) (a : AFr) (σ : ASt) : c50_3.wp P Q a σ = ACode.wp P (.ops [
    ⟨(some 19), none, .q (.mv (.t 0)), []⟩,
    ⟨(some 20), none, .e (.call 48 [(.t 19), (.v (.int .i64 3))]), []⟩]) Q a σ := id rfl
@[go_sem] theorem c50_4_wp (P : Program) (Q : APost) (a : AFr) (σ : ASt) : c50_4.wp P Q a σ = ACode.wp P (.cond (.t 18) c50_3 .skip) Q a σ := id rfl
@[go_sem] theorem c50_5_wp (P : Program) (Q : APost) (a : AFr) (σ : ASt) : c50_5.wp P Q a σ = ACode.wp P (.seq c50_2 c50_4) Q a σ := id rfl
@[go_sem] theorem c50_6_wp (P : Program) (Q : APost) (a : AFr) (σ : ASt) : c50_6.wp P Q a σ = ACode.wp P (.ops [
    ⟨(some 21), none, .q (.mv (.t 1)), []⟩,
    ⟨(some 22), none, .q (.mv (.t 5)), []⟩,
    ⟨(some 23), none, .q (.bin .add (.t 21) (.t 22)), []⟩,
    ⟨(some 24), none, .q (.bin .add (.t 23) (.v (.int .u64 1))), []⟩,
    ⟨(some 4), none, .q (.mv (.t 24)), []⟩]) Q a σ := id rfl
@[go_sem] theorem c50_7_wp (P : Program) (Q : APost) (a : AFr) (σ : ASt) : c50_7.wp P Q a σ = ACode.wp P (.seq c50_6 .ret) Q a σ := id rfl
@[go_sem] theorem c50_8_wp (P : Program) (Q : APost) (a : AFr) (σ : ASt) : c50_8.wp P Q a σ = ACode.wp P (.seq c50_5 c50_7) Q a σ := id rfl
@[go_sem] theorem c50_9_wp (P : Program) (Q : APost) (a : AFr) (σ : ASt) : c50_9.wp P Q a σ = ACode.wp P (.seq c50_1 c50_8) Q a σ := id rfl
@[go_sem] theorem c50_10_wp (P : Program) (Q : APost) (a : AFr) (σ : ASt) : c50_10.wp P Q a σ = ACode.wp P (.seq c50_0 c50_9) Q a σ := id rfl
def c50 : AFn := ⟨25, [.t 4], c50_10⟩
set_option maxRecDepth 100000 in
theorem c50_ok : compF Try.prog Try.f50 = some c50 := by kernel_rfl
theorem a50 {args : List AV} {σ : ASt} {R : AV → ASt → Prop} (hl : args.length ≤ 25) (h : c50_10.wp Try.prog (RetQ [.t 4] R) (init args) σ) : ACalls Try.prog 50 args σ R := acalls_of Try.func50 c50_ok hl h

end Go.A
