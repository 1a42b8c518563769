/- The functions, compiled: by program (wip/gencode.py). -/
import Derived.Test.YtfjnahkcfdcbeaaDoorBk
import Derived.Test.YtfjnahkcfdcbeaaDoorProg
import Derived.KernelRfl
namespace Go.A
open Go.Proofs

/-! 8: tabular/tabularlaw11.TokenQuotes -/
def c8_0 : ACode := .ops [
    ⟨(some 2), none, .q (.mv (.v (.bool false))), []⟩]
def c8_1 : ACode := .ops [
    ⟨(some 8), none, .q (.mv (.t 0)), []⟩,
    ⟨(some 9), none, .e (.call 15 [(.t 8), (.v (.int .i64 400))]), []⟩,
    ⟨(some 0), none, .q (.mv (.t 9)), []⟩]
def c8_2 : ACode := .ops [
    ⟨(some 11), none, .q (.mv (.t 0)), []⟩,
    ⟨(some 12), none, .e (.call 25 [(.t 11)]), []⟩,
    ⟨(some 10), none, .q (.mv (.t 12)), []⟩,
    ⟨(some 13), none, .q (.ext 0 (.t 10)), []⟩,
    ⟨(some 14), none, .q (.ext 1 (.t 10)), []⟩,
    ⟨(some 3), none, .q (.mv (.t 13)), []⟩,
    ⟨(some 4), none, .q (.mv (.t 14)), []⟩]
def c8_3 : ACode := .ops [
    ⟨(some 16), none, .q (.mv (.t 0)), []⟩,
    ⟨(some 17), none, .e (.call 26 [(.t 16)]), []⟩,
    ⟨(some 18), none, .e (.call 24 [(.t 17)]), []⟩,
    ⟨(some 15), none, .q (.mv (.t 18)), []⟩,
    ⟨(some 19), none, .q (.ext 0 (.t 15)), []⟩,
    ⟨(some 20), none, .q (.ext 1 (.t 15)), []⟩,
    ⟨(some 21), none, .q (.ext 2 (.t 15)), []⟩,
    ⟨(some 5), none, .q (.mv (.t 19)), []⟩,
    ⟨(some 6), none, .q (.mv (.t 20)), []⟩,
    ⟨(some 7), none, .q (.mv (.t 21)), []⟩]
def c8_4 : ACode := .ops [
    ⟨(some 22), none, .q (.mv (.t 4)), []⟩,
    ⟨(some 23), none, .q (.un .not (.t 22)), []⟩]
def c8_5 : ACode := .ops [
    ⟨(some 24), none, .e (.call 23 []), []⟩,
    ⟨(some 25), none, .q (.mv (.t 24)), []⟩,
    ⟨(some 26), (some (25, true)), .q (.mv (.t 7)), []⟩,
    ⟨(some 27), (some (25, true)), .q (.bin .eql (.t 26) (.v (.int .i64 10))), []⟩,
    ⟨(some 28), none, .q (.pick (.t 25) (.t 27) (.v (.bool false))), []⟩,
    ⟨(some 2), none, .q (.mv (.t 28)), []⟩]
def c8_6 : ACode := .seq c8_5 .ret
def c8_7 : ACode := .cond (.t 23) c8_6 .skip
def c8_8 : ACode := .seq c8_4 c8_7
def c8_9 : ACode := .ops [
    ⟨(some 29), none, .e (.call 23 []), []⟩,
    ⟨(some 30), none, .q (.mv (.t 29)), []⟩,
    ⟨(some 31), (some (30, true)), .q (.mv (.t 7)), []⟩,
    ⟨(some 32), (some (30, true)), .q (.bin .eql (.t 31) (.v (.int .i64 0))), []⟩,
    ⟨(some 33), none, .q (.pick (.t 30) (.t 32) (.v (.bool false))), []⟩,
    ⟨(some 34), none, .q (.mv (.t 33)), []⟩,
    ⟨(some 35), (some (34, true)), .q (.mv (.t 5)), []⟩,
    ⟨(some 36), (some (34, true)), .q (.len (.t 35)), []⟩,
    ⟨(some 37), (some (34, true)), .q (.bin .eql (.t 36) (.v (.int .i64 2))), []⟩,
    ⟨(some 38), none, .q (.pick (.t 34) (.t 37) (.v (.bool false))), []⟩,
    ⟨(some 39), none, .q (.mv (.t 38)), []⟩,
    ⟨(some 40), (some (39, true)), .q (.mv (.t 5)), []⟩,
    ⟨(some 41), (some (39, true)), .q (.ia 4 (.t 40) (.v (.int .i64 0))), []⟩,
    ⟨(some 42), (some (39, true)), .q (.ld (some 4) (.t 41)), []⟩,
    ⟨(some 43), (some (39, true)), .q (.mv (.t 0)), []⟩,
    ⟨(some 44), (some (39, true)), .q (.build [(.int .i64 0), (.str []), (.int .i64 0), (.int .i64 0)] [(0, 1, (.v (.int .i64 2))), (1, 1, (.t 43))]), []⟩,
    ⟨(some 45), (some (39, true)), .q (.eqs false [(0, 0), (1, 2), (2, 0), (3, 0)] (.t 42) (.t 44)), []⟩,
    ⟨(some 46), none, .q (.pick (.t 39) (.t 45) (.v (.bool false))), []⟩,
    ⟨(some 2), none, .q (.mv (.t 46)), []⟩]
def c8_10 : ACode := .seq c8_9 .ret
def c8_11 : ACode := .seq c8_8 c8_10
def c8_12 : ACode := .seq c8_3 c8_11
def c8_13 : ACode := .seq c8_2 c8_12
def c8_14 : ACode := .seq c8_1 c8_13
def c8_15 : ACode := .seq c8_0 c8_14
@[go_sem] theorem c8_0_wp (P : Program) (Q : APost) (a : AFr) (σ : ASt) : c8_0.wp P Q a σ = ACode.wp P (.ops [
    ⟨(some 2), none, .q (.mv (.v (.bool false))), []⟩]) Q a σ := id rfl
@[go_sem] theorem c8_1_wp (P : Program) (Q : APost) (a : AFr) (σ : ASt) : c8_1.wp P Q a σ = ACode.wp P (.ops [
    ⟨(some 8), none, .q (.mv (.t 0)), []⟩,
    ⟨(some 9), none, .e (.call 15 [(.t 8), (.v (.int .i64 400))]), []⟩,
    ⟨(some 0), none, .q (.mv (.t 9)), []⟩]) Q a σ := id rfl
@[go_sem] theorem c8_2_wp (P : Program) (Q : APost) (a : AFr) (σ : ASt) : c8_2.wp P Q a σ = ACode.wp P (.ops [
    ⟨(some 11), none, .q (.mv (.t 0)), []⟩,
    ⟨(some 12), none, .e (.call 25 [(.t 11)]), []⟩,
    ⟨(some 10), none, .q (.mv (.t 12)), []⟩,
    ⟨(some 13), none, .q (.ext 0 (.t 10)), []⟩,
    ⟨(some 14), none, .q (.ext 1 (.t 10)), []⟩,
    ⟨(some 3), none, .q (.mv (.t 13)), []⟩,
    ⟨(some 4), none, .q (.mv (.t 14)), []⟩]) Q a σ := id rfl
@[go_sem] theorem c8_3_wp (P : Program) (Q : APost) (a : AFr) (σ : ASt) : c8_3.wp P Q a σ = ACode.wp P (.ops [
    ⟨(some 16), none, .q (.mv (.t 0)), []⟩,
    ⟨(some 17), none, .e (.call 26 [(.t 16)]), []⟩,
    ⟨(some 18), none, .e (.call 24 [(.t 17)]), []⟩,
    ⟨(some 15), none, .q (.mv (.t 18)), []⟩,
    ⟨(some 19), none, .q (.ext 0 (.t 15)), []⟩,
    ⟨(some 20), none, .q (.ext 1 (.t 15)), []⟩,
    ⟨(some 21), none, .q (.ext 2 (.t 15)), []⟩,
    ⟨(some 5), none, .q (.mv (.t 19)), []⟩,
    ⟨(some 6), none, .q (.mv (.t 20)), []⟩,
    ⟨(some 7), none, .q (.mv (.t 21)), []⟩]) Q a σ := id rfl
@[go_sem] theorem c8_4_wp (P : Program) (Q : APost) (a : AFr) (σ : ASt) : c8_4.wp P Q a σ = ACode.wp P (.ops [
    ⟨(some 22), none, .q (.mv (.t 4)), []⟩,
    ⟨(some 23), none, .q (.un .not (.t 22)), []⟩]) Q a σ := id rfl
@[go_sem] theorem c8_5_wp (P : Program) (Q : APost) (a : AFr) (σ : ASt) : c8_5.wp P Q a σ = ACode.wp P (.ops [
    ⟨(some 24), none, .e (.call 23 []), []⟩,
    ⟨(some 25), none, .q (.mv (.t 24)), []⟩,
    ⟨(some 26), (some (25, true)), .q (.mv (.t 7)), []⟩,
    ⟨(some 27), (some (25, true)), .q (.bin .eql (.t 26) (.v (.int .i64 10))), []⟩,
    ⟨(some 28), none, .q (.pick (.t 25) (.t 27) (.v (.bool false))), []⟩,
    ⟨(some 2), none, .q (.mv (.t 28)), []⟩]) Q a σ := id rfl
@[go_sem] theorem c8_6_wp (P : Program) (Q : APost) (a : AFr) (σ : ASt) : c8_6.wp P Q a σ = ACode.wp P (.seq c8_5 .ret) Q a σ := id rfl
@[go_sem] theorem c8_7_wp (P : Program) (Q : APost) (a : AFr) (σ : ASt) : c8_7.wp P Q a σ = ACode.wp P (.cond (.t 23) c8_6 .skip) Q a σ := id rfl
@[go_sem] theorem c8_8_wp (P : Program) (Q : APost) (a : AFr) (σ : ASt) : c8_8.wp P Q a σ = ACode.wp P (.seq c8_4 c8_7) Q a σ := id rfl
@[go_sem] theorem c8_9_wp (P : Program) (Q : APost) (a : AFr) (σ : ASt) : c8_9.wp P Q a σ = ACode.wp P (.ops [
    ⟨(some 29), none, .e (.call 23 []), []⟩,
    ⟨(some 30), none, .q (.mv (.t 29)), []⟩,
    ⟨(some 31), (some (30, true)), .q (.mv (.t 7)), []⟩,
    ⟨(some 32), (some (30, true)), .q (.bin .eql (.t 31) (.v (.int .i64 0))), []⟩,
    ⟨(some 33), none, .q (.pick (.t 30) (.t 32) (.v (.bool false))), []⟩,
    ⟨(some 34), none, .q (.mv (.t 33)), []⟩,
    ⟨(some 35), (some (34, true)), .q (.mv (.t 5)), []⟩,
    ⟨(some 36), (some (34, true)), .q (.len (.t 35)), []⟩,
    ⟨(some 37), (some (34, true)), .q (.bin .eql (.t 36) (.v (.int .i64 2))), []⟩,
    ⟨(some 38), none, .q (.pick (.t 34) (.t 37) (.v (.bool false))), []⟩,
    ⟨(some 39), none, .q (.mv (.t 38)), []⟩,
    ⟨(some 40), (some (39, true)), .q (.mv (.t 5)), []⟩,
    ⟨(some 41), (some (39, true)), .q (.ia 4 (.t 40) (.v (.int .i64 0))), []⟩,
    ⟨(some 42), (some (39, true)), .q (.ld (some 4) (.t 41)), []⟩,
    ⟨(some 43), (some (39, true)), .q (.mv (.t 0)), []⟩,
    ⟨(some 44), (some (39, true)), .q (.build [(.int .i64 0), (.str []), (.int .i64 0), (.int .i64 0)] [(0, 1, (.v (.int .i64 2))), (1, 1, (.t 43))]), []⟩,
    ⟨(some 45), (some (39, true)), .q (.eqs false [(0, 0), (1, 2), (2, 0), (3, 0)] (.t 42) (.t 44)), []⟩,
    ⟨(some 46), none, .q (.pick (.t 39) (.t 45) (.v (.bool false))), []⟩,
    ⟨(some 2), none, .q (.mv (.t 46)), []⟩]) Q a σ := id rfl
@[go_sem] theorem c8_10_wp (P : Program) (Q : APost) (a : AFr) (σ : ASt) : c8_10.wp P Q a σ = ACode.wp P (.seq c8_9 .ret) Q a σ := id rfl
@[go_sem] theorem c8_11_wp (P : Program) (Q : APost) (a : AFr) (σ : ASt) : c8_11.wp P Q a σ = ACode.wp P (.seq c8_8 c8_10) Q a σ := id rfl
@[go_sem] theorem c8_12_wp (P : Program) (Q : APost) (a : AFr) (σ : ASt) : c8_12.wp P Q a σ = ACode.wp P (.seq c8_3 c8_11) Q a σ := id rfl
@[go_sem] theorem c8_13_wp (P : Program) (Q : APost) (a : AFr) (σ : ASt) : c8_13.wp P Q a σ = ACode.wp P (.seq c8_2 c8_12) Q a σ := id rfl
@[go_sem] theorem c8_14_wp (P : Program) (Q : APost) (a : AFr) (σ : ASt) : c8_14.wp P Q a σ = ACode.wp P (.seq c8_1 c8_13) Q a σ := id rfl
@[go_sem] theorem c8_15_wp (P : Program) (Q : APost) (a : AFr) (σ : ASt) : c8_15.wp P Q a σ = ACode.wp P (.seq c8_0 c8_14) Q a σ := id rfl
def c8 : AFn := ⟨47, [.t 2], c8_15⟩
set_option maxRecDepth 100000 in
theorem c8_ok : compF Tryd.prog Tryd.f8 = some c8 := by kernel_rfl
theorem a8 {args : List AV} {σ : ASt} {R : AV → ASt → Prop} (hl : args.length ≤ 47) (h : c8_15.wp Tryd.prog (RetQ [.t 2] R) (init args) σ) : ACalls Tryd.prog 8 args σ R := acalls_of Tryd.func8 c8_ok hl h

/-! 26: tabular/token.Quote -/
def c26_0 : ACode := .ops [
    ⟨(some 2), none, .q (.mv (.v (.str []))), []⟩]
def c26_1 : ACode := .ops [
    ⟨(some 3), none, .q (.mv (.t 0)), []⟩,
    ⟨(some 4), none, .e (.call 41 [(.t 3), (.v (.str [34])), (.v (.str [34, 34]))]), []⟩,
    ⟨(some 5), none, .q (.bin .add (.v (.str [34])) (.t 4)), []⟩,
    ⟨(some 6), none, .q (.bin .add (.t 5) (.v (.str [34]))), []⟩,
    ⟨(some 2), none, .q (.mv (.t 6)), []⟩]
def c26_2 : ACode := .seq c26_1 .ret
def c26_3 : ACode := .seq c26_0 c26_2
@[go_sem] theorem c26_0_wp (P : Program) (Q : APost) (a : AFr) (σ : ASt) : c26_0.wp P Q a σ = ACode.wp P (.ops [
    ⟨(some 2), none, .q (.mv (.v (.str []))), []⟩]) Q a σ := id rfl
@[go_sem] theorem c26_1_wp (P : Program) (Q : APost) (a : AFr) (σ : ASt) : c26_1.wp P Q a σ = ACode.wp P (.ops [
    ⟨(some 3), none, .q (.mv (.t 0)), []⟩,
    ⟨(some 4), none, .e (.call 41 [(.t 3), (.v (.str [34])), (.v (.str [34, 34]))]), []⟩,
    ⟨(some 5), none, .q (.bin .add (.v (.str [34])) (.t 4)), []⟩,
    ⟨(some 6), none, .q (.bin .add (.t 5) (.v (.str [34]))), []⟩,
    ⟨(some 2), none, .q (.mv (.t 6)), []⟩]) Q a σ := id rfl
@[go_sem] theorem c26_2_wp (P : Program) (Q : APost) (a : AFr) (σ : ASt) : c26_2.wp P Q a σ = ACode.wp P (.seq c26_1 .ret) Q a σ := id rfl
@[go_sem] theorem c26_3_wp (P : Program) (Q : APost) (a : AFr) (σ : ASt) : c26_3.wp P Q a σ = ACode.wp P (.seq c26_0 c26_2) Q a σ := id rfl
def c26 : AFn := ⟨7, [.t 2], c26_3⟩
set_option maxRecDepth 100000 in
theorem c26_ok : compF Tryd.prog Tryd.f26 = some c26 := by kernel_rfl
theorem a26 {args : List AV} {σ : ASt} {R : AV → ASt → Prop} (hl : args.length ≤ 7) (h : c26_3.wp Tryd.prog (RetQ [.t 2] R) (init args) σ) : ACalls Tryd.prog 26 args σ R := acalls_of Tryd.func26 c26_ok hl h

end Go.A
