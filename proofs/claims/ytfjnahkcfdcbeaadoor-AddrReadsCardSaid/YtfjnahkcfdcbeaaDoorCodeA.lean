/- The functions, compiled: by program (wip/gencode.py). -/
import Derived.Test.YtfjnahkcfdcbeaaDoorBk
import Derived.Test.YtfjnahkcfdcbeaaDoorProg
import Derived.KernelRfl
namespace Go.A
open Go.Proofs

/-! 3: tabular/tabularlaw10.AddrBack -/
def c3_0 : ACode := .ops [
    ⟨(some 2), none, .e (.box (.t 0)), []⟩,
    ⟨(some 3), none, .e (.box (.t 1)), []⟩,
    ⟨(some 4), none, .q (.mv (.v (.bool false))), []⟩]
def c3_1 : ACode := .ops [
    ⟨(some 9), none, .q (.ld (some 4) (.t 2)), []⟩,
    ⟨(some 10), none, .e (.call 9 [(.t 9)]), []⟩,
    ⟨(some 11), none, .q (.un .not (.t 10)), []⟩,
    ⟨(some 12), none, .q (.mv (.t 11)), []⟩,
    ⟨(some 13), (some (12, false)), .q (.ld (some 4) (.t 3)), []⟩,
    ⟨(some 14), (some (12, false)), .e (.call 9 [(.t 13)]), []⟩,
    ⟨(some 15), (some (12, false)), .q (.un .not (.t 14)), []⟩,
    ⟨(some 16), none, .q (.pick (.t 12) (.v (.bool true)) (.t 15)), []⟩]
def c3_2 : ACode := .ops [
    ⟨(some 17), none, .e (.call 10 []), []⟩,
    ⟨(some 4), none, .q (.mv (.t 17)), []⟩]
def c3_3 : ACode := .seq c3_2 .ret
def c3_4 : ACode := .cond (.t 16) c3_3 .skip
def c3_5 : ACode := .seq c3_1 c3_4
def c3_6 : ACode := .ops [
    ⟨(some 19), none, .q (.ld (some 4) (.t 2)), []⟩,
    ⟨(some 20), none, .e (.call 12 [(.t 19)]), []⟩,
    ⟨(some 21), none, .e (.call 11 [(.t 20)]), []⟩,
    ⟨(some 18), none, .q (.mv (.t 21)), []⟩,
    ⟨(some 22), none, .q (.ext 0 (.t 18)), []⟩,
    ⟨(some 23), none, .q (.ext 1 (.t 18)), []⟩,
    ⟨(some 5), none, .e (.alloc [(.int .i64 0), (.int .i64 0), (.bool false), (.bool false)]), []⟩,
    ⟨none, none, .e (.store 4 (.t 5) (.t 22)), []⟩,
    ⟨(some 6), none, .q (.mv (.t 23)), []⟩]
def c3_7 : ACode := .ops [
    ⟨(some 25), none, .q (.ld (some 4) (.t 2)), []⟩,
    ⟨(some 26), none, .q (.ld (some 4) (.t 3)), []⟩,
    ⟨(some 27), none, .q (.build [(.int .i64 0), (.int .i64 0), (.bool false), (.bool false), (.int .i64 0), (.int .i64 0), (.bool false), (.bool false)] [(0, 4, (.t 25)), (4, 4, (.t 26))]), []⟩,
    ⟨(some 28), none, .e (.call 14 [(.t 27)]), []⟩,
    ⟨(some 29), none, .e (.call 13 [(.t 28)]), []⟩,
    ⟨(some 24), none, .q (.mv (.t 29)), []⟩,
    ⟨(some 30), none, .q (.ext 0 (.t 24)), []⟩,
    ⟨(some 31), none, .q (.ext 1 (.t 24)), []⟩,
    ⟨(some 7), none, .e (.alloc [(.int .i64 0), (.int .i64 0), (.bool false), (.bool false), (.int .i64 0), (.int .i64 0), (.bool false), (.bool false)]), []⟩,
    ⟨none, none, .e (.store 8 (.t 7) (.t 30)), []⟩,
    ⟨(some 8), none, .q (.mv (.t 31)), []⟩]
def c3_8 : ACode := .ops [
    ⟨(some 32), none, .e (.call 10 []), []⟩,
    ⟨(some 33), none, .q (.mv (.t 32)), []⟩,
    ⟨(some 34), (some (33, true)), .q (.mv (.t 6)), []⟩,
    ⟨(some 35), none, .q (.pick (.t 33) (.t 34) (.v (.bool false))), []⟩,
    ⟨(some 36), none, .q (.mv (.t 35)), []⟩,
    ⟨(some 37), (some (36, true)), .q (.ld (some 4) (.t 5)), []⟩,
    ⟨(some 38), (some (36, true)), .q (.ld (some 4) (.t 2)), []⟩,
    ⟨(some 39), (some (36, true)), .q (.eqs false [(0, 0), (1, 0), (2, 1), (3, 1)] (.t 37) (.t 38)), []⟩,
    ⟨(some 40), none, .q (.pick (.t 36) (.t 39) (.v (.bool false))), []⟩,
    ⟨(some 41), none, .q (.mv (.t 40)), []⟩,
    ⟨(some 42), (some (41, true)), .q (.mv (.t 8)), []⟩,
    ⟨(some 43), none, .q (.pick (.t 41) (.t 42) (.v (.bool false))), []⟩,
    ⟨(some 44), none, .q (.mv (.t 43)), []⟩,
    ⟨(some 45), (some (44, true)), .q (.ld (some 8) (.t 7)), []⟩,
    ⟨(some 46), (some (44, true)), .q (.ld (some 4) (.t 2)), []⟩,
    ⟨(some 47), (some (44, true)), .q (.ld (some 4) (.t 3)), []⟩,
    ⟨(some 48), (some (44, true)), .q (.build [(.int .i64 0), (.int .i64 0), (.bool false), (.bool false), (.int .i64 0), (.int .i64 0), (.bool false), (.bool false)] [(0, 4, (.t 46)), (4, 4, (.t 47))]), []⟩,
    ⟨(some 49), (some (44, true)), .q (.eqs false [(0, 0), (1, 0), (2, 1), (3, 1), (4, 0), (5, 0), (6, 1), (7, 1)] (.t 45) (.t 48)), []⟩,
    ⟨(some 50), none, .q (.pick (.t 44) (.t 49) (.v (.bool false))), []⟩,
    ⟨(some 4), none, .q (.mv (.t 50)), []⟩]
def c3_9 : ACode := .seq c3_8 .ret
def c3_10 : ACode := .seq c3_7 c3_9
def c3_11 : ACode := .seq c3_6 c3_10
def c3_12 : ACode := .seq c3_5 c3_11
def c3_13 : ACode := .seq c3_0 c3_12
@[go_sem] theorem c3_0_wp (P : Program) (Q : APost) (a : AFr) (σ : ASt) : c3_0.wp P Q a σ = ACode.wp P (.ops [
    ⟨(some 2), none, .e (.box (.t 0)), []⟩,
    ⟨(some 3), none, .e (.box (.t 1)), []⟩,
    ⟨(some 4), none, .q (.mv (.v (.bool false))), []⟩]) Q a σ := id rfl
@[go_sem] theorem c3_1_wp (P : Program) (Q : APost) (a : AFr) (σ : ASt) : c3_1.wp P Q a σ = ACode.wp P (.ops [
    ⟨(some 9), none, .q (.ld (some 4) (.t 2)), []⟩,
    ⟨(some 10), none, .e (.call 9 [(.t 9)]), []⟩,
    ⟨(some 11), none, .q (.un .not (.t 10)), []⟩,
    ⟨(some 12), none, .q (.mv (.t 11)), []⟩,
    ⟨(some 13), (some (12, false)), .q (.ld (some 4) (.t 3)), []⟩,
    ⟨(some 14), (some (12, false)), .e (.call 9 [(.t 13)]), []⟩,
    ⟨(some 15), (some (12, false)), .q (.un .not (.t 14)), []⟩,
    ⟨(some 16), none, .q (.pick (.t 12) (.v (.bool true)) (.t 15)), []⟩]) Q a σ := id rfl
@[go_sem] theorem c3_2_wp (P : Program) (Q : APost) (a : AFr) (σ : ASt) : c3_2.wp P Q a σ = ACode.wp P (.ops [
    ⟨(some 17), none, .e (.call 10 []), []⟩,
    ⟨(some 4), none, .q (.mv (.t 17)), []⟩]) Q a σ := id rfl
@[go_sem] theorem c3_3_wp (P : Program) (Q : APost) (a : AFr) (σ : ASt) : c3_3.wp P Q a σ = ACode.wp P (.seq c3_2 .ret) Q a σ := id rfl
@[go_sem] theorem c3_4_wp (P : Program) (Q : APost) (a : AFr) (σ : ASt) : c3_4.wp P Q a σ = ACode.wp P (.cond (.t 16) c3_3 .skip) Q a σ := id rfl
@[go_sem] theorem c3_5_wp (P : Program) (Q : APost) (a : AFr) (σ : ASt) : c3_5.wp P Q a σ = ACode.wp P (.seq c3_1 c3_4) Q a σ := id rfl
@[go_sem] theorem c3_6_wp (P : Program) (Q : APost) (a : AFr) (σ : ASt) : c3_6.wp P Q a σ = ACode.wp P (.ops [
    ⟨(some 19), none, .q (.ld (some 4) (.t 2)), []⟩,
    ⟨(some 20), none, .e (.call 12 [(.t 19)]), []⟩,
    ⟨(some 21), none, .e (.call 11 [(.t 20)]), []⟩,
    ⟨(some 18), none, .q (.mv (.t 21)), []⟩,
    ⟨(some 22), none, .q (.ext 0 (.t 18)), []⟩,
    ⟨(some 23), none, .q (.ext 1 (.t 18)), []⟩,
    ⟨(some 5), none, .e (.alloc [(.int .i64 0), (.int .i64 0), (.bool false), (.bool false)]), []⟩,
    ⟨none, none, .e (.store 4 (.t 5) (.t 22)), []⟩,
    ⟨(some 6), none, .q (.mv (.t 23)), []⟩]) Q a σ := id rfl
@[go_sem] theorem c3_7_wp (P : Program) (Q : APost) (a : AFr) (σ : ASt) : c3_7.wp P Q a σ = ACode.wp P (.ops [
    ⟨(some 25), none, .q (.ld (some 4) (.t 2)), []⟩,
    ⟨(some 26), none, .q (.ld (some 4) (.t 3)), []⟩,
    ⟨(some 27), none, .q (.build [(.int .i64 0), (.int .i64 0), (.bool false), (.bool false), (.int .i64 0), (.int .i64 0), (.bool false), (.bool false)] [(0, 4, (.t 25)), (4, 4, (.t 26))]), []⟩,
    ⟨(some 28), none, .e (.call 14 [(.t 27)]), []⟩,
    ⟨(some 29), none, .e (.call 13 [(.t 28)]), []⟩,
    ⟨(some 24), none, .q (.mv (.t 29)), []⟩,
    ⟨(some 30), none, .q (.ext 0 (.t 24)), []⟩,
    ⟨(some 31), none, .q (.ext 1 (.t 24)), []⟩,
    ⟨(some 7), none, .e (.alloc [(.int .i64 0), (.int .i64 0), (.bool false), (.bool false), (.int .i64 0), (.int .i64 0), (.bool false), (.bool false)]), []⟩,
    ⟨none, none, .e (.store 8 (.t 7) (.t 30)), []⟩,
    ⟨(some 8), none, .q (.mv (.t 31)), []⟩]) Q a σ := id rfl
@[go_sem] theorem c3_8_wp (P : Program) (Q : APost) (a : AFr) (σ : ASt) : c3_8.wp P Q a σ = ACode.wp P (.ops [
    ⟨(some 32), none, .e (.call 10 []), []⟩,
    ⟨(some 33), none, .q (.mv (.t 32)), []⟩,
    ⟨(some 34), (some (33, true)), .q (.mv (.t 6)), []⟩,
    ⟨(some 35), none, .q (.pick (.t 33) (.t 34) (.v (.bool false))), []⟩,
    ⟨(some 36), none, .q (.mv (.t 35)), []⟩,
    ⟨(some 37), (some (36, true)), .q (.ld (some 4) (.t 5)), []⟩,
    ⟨(some 38), (some (36, true)), .q (.ld (some 4) (.t 2)), []⟩,
    ⟨(some 39), (some (36, true)), .q (.eqs false [(0, 0), (1, 0), (2, 1), (3, 1)] (.t 37) (.t 38)), []⟩,
    ⟨(some 40), none, .q (.pick (.t 36) (.t 39) (.v (.bool false))), []⟩,
    ⟨(some 41), none, .q (.mv (.t 40)), []⟩,
    ⟨(some 42), (some (41, true)), .q (.mv (.t 8)), []⟩,
    ⟨(some 43), none, .q (.pick (.t 41) (.t 42) (.v (.bool false))), []⟩,
    ⟨(some 44), none, .q (.mv (.t 43)), []⟩,
    ⟨(some 45), (some (44, true)), .q (.ld (some 8) (.t 7)), []⟩,
    ⟨(some 46), (some (44, true)), .q (.ld (some 4) (.t 2)), []⟩,
    ⟨(some 47), (some (44, true)), .q (.ld (some 4) (.t 3)), []⟩,
    ⟨(some 48), (some (44, true)), .q (.build [(.int .i64 0), (.int .i64 0), (.bool false), (.bool false), (.int .i64 0), (.int .i64 0), (.bool false), (.bool false)] [(0, 4, (.t 46)), (4, 4, (.t 47))]), []⟩,
    ⟨(some 49), (some (44, true)), .q (.eqs false [(0, 0), (1, 0), (2, 1), (3, 1), (4, 0), (5, 0), (6, 1), (7, 1)] (.t 45) (.t 48)), []⟩,
    ⟨(some 50), none, .q (.pick (.t 44) (.t 49) (.v (.bool false))), []⟩,
    ⟨(some 4), none, .q (.mv (.t 50)), []⟩]) Q a σ := id rfl
@[go_sem] theorem c3_9_wp (P : Program) (Q : APost) (a : AFr) (σ : ASt) : c3_9.wp P Q a σ = ACode.wp P (.seq c3_8 .ret) Q a σ := id rfl
@[go_sem] theorem c3_10_wp (P : Program) (Q : APost) (a : AFr) (σ : ASt) : c3_10.wp P Q a σ = ACode.wp P (.seq c3_7 c3_9) Q a σ := id rfl
@[go_sem] theorem c3_11_wp (P : Program) (Q : APost) (a : AFr) (σ : ASt) : c3_11.wp P Q a σ = ACode.wp P (.seq c3_6 c3_10) Q a σ := id rfl
@[go_sem] theorem c3_12_wp (P : Program) (Q : APost) (a : AFr) (σ : ASt) : c3_12.wp P Q a σ = ACode.wp P (.seq c3_5 c3_11) Q a σ := id rfl
@[go_sem] theorem c3_13_wp (P : Program) (Q : APost) (a : AFr) (σ : ASt) : c3_13.wp P Q a σ = ACode.wp P (.seq c3_0 c3_12) Q a σ := id rfl
def c3 : AFn := ⟨51, [.t 4], c3_13⟩
set_option maxRecDepth 100000 in
theorem c3_ok : compF Tryd.prog Tryd.f3 = some c3 := by kernel_rfl
theorem a3 {args : List AV} {σ : ASt} {R : AV → ASt → Prop} (hl : args.length ≤ 51) (h : c3_13.wp Tryd.prog (RetQ [.t 4] R) (init args) σ) : ACalls Tryd.prog 3 args σ R := acalls_of Tryd.func3 c3_ok hl h

/-! 9: (tabular/addr.Ref).Good -/
def c9_0 : ACode := .ops [
    ⟨(some 1), none, .e (.box (.t 0)), []⟩,
    ⟨(some 2), none, .q (.mv (.v (.bool false))), []⟩]
def c9_1 : ACode := .ops [
    ⟨(some 3), none, .q (.fa 0 (.t 1)), []⟩,
    ⟨(some 4), none, .q (.ld none (.t 3)), []⟩,
    ⟨(some 5), none, .q (.bin .geq (.t 4) (.v (.int .i64 0))), []⟩,
    ⟨(some 6), none, .q (.mv (.t 5)), []⟩,
    ⟨(some 7), (some (6, true)), .q (.fa 0 (.t 1)), []⟩,
    ⟨(some 8), (some (6, true)), .q (.ld none (.t 7)), []⟩,
    ⟨(some 9), (some (6, true)), .q (.bin .lss (.t 8) (.v (.int .i64 3000))), []⟩,
    ⟨(some 10), none, .q (.pick (.t 6) (.t 9) (.v (.bool false))), []⟩,
    ⟨(some 11), none, .q (.mv (.t 10)), []⟩,
    ⟨(some 12), (some (11, true)), .q (.fa 1 (.t 1)), []⟩,
    ⟨(some 13), (some (11, true)), .q (.ld none (.t 12)), []⟩,
    ⟨(some 14), (some (11, true)), .q (.bin .geq (.t 13) (.v (.int .i64 0))), []⟩,
    ⟨(some 15), none, .q (.pick (.t 11) (.t 14) (.v (.bool false))), []⟩,
    ⟨(some 16), none, .q (.mv (.t 15)), []⟩,
    ⟨(some 17), (some (16, true)), .q (.fa 1 (.t 1)), []⟩,
    ⟨(some 18), (some (16, true)), .q (.ld none (.t 17)), []⟩,
    ⟨(some 19), (some (16, true)), .q (.bin .lss (.t 18) (.v (.int .i64 700))), []⟩,
    ⟨(some 20), none, .q (.pick (.t 16) (.t 19) (.v (.bool false))), []⟩,
    ⟨(some 2), none, .q (.mv (.t 20)), []⟩]
def c9_2 : ACode := .seq c9_1 .ret
def c9_3 : ACode := .seq c9_0 c9_2
@[go_sem] theorem c9_0_wp (P : Program) (Q : APost) (a : AFr) (σ : ASt) : c9_0.wp P Q a σ = ACode.wp P (.ops [
    ⟨(some 1), none, .e (.box (.t 0)), []⟩,
    ⟨(some 2), none, .q (.mv (.v (.bool false))), []⟩]) Q a σ := id rfl
@[go_sem] theorem c9_1_wp (P : Program) (Q : APost) (a : AFr) (σ : ASt) : c9_1.wp P Q a σ = ACode.wp P (.ops [
    ⟨(some 3), none, .q (.fa 0 (.t 1)), []⟩,
    ⟨(some 4), none, .q (.ld none (.t 3)), []⟩,
    ⟨(some 5), none, .q (.bin .geq (.t 4) (.v (.int .i64 0))), []⟩,
    ⟨(some 6), none, .q (.mv (.t 5)), []⟩,
    ⟨(some 7), (some (6, true)), .q (.fa 0 (.t 1)), []⟩,
    ⟨(some 8), (some (6, true)), .q (.ld none (.t 7)), []⟩,
    ⟨(some 9), (some (6, true)), .q (.bin .lss (.t 8) (.v (.int .i64 3000))), []⟩,
    ⟨(some 10), none, .q (.pick (.t 6) (.t 9) (.v (.bool false))), []⟩,
    ⟨(some 11), none, .q (.mv (.t 10)), []⟩,
    ⟨(some 12), (some (11, true)), .q (.fa 1 (.t 1)), []⟩,
    ⟨(some 13), (some (11, true)), .q (.ld none (.t 12)), []⟩,
    ⟨(some 14), (some (11, true)), .q (.bin .geq (.t 13) (.v (.int .i64 0))), []⟩,
    ⟨(some 15), none, .q (.pick (.t 11) (.t 14) (.v (.bool false))), []⟩,
    ⟨(some 16), none, .q (.mv (.t 15)), []⟩,
    ⟨(some 17), (some (16, true)), .q (.fa 1 (.t 1)), []⟩,
    ⟨(some 18), (some (16, true)), .q (.ld none (.t 17)), []⟩,
    ⟨(some 19), (some (16, true)), .q (.bin .lss (.t 18) (.v (.int .i64 700))), []⟩,
    ⟨(some 20), none, .q (.pick (.t 16) (.t 19) (.v (.bool false))), []⟩,
    ⟨(some 2), none, .q (.mv (.t 20)), []⟩]) Q a σ := id rfl
@[go_sem] theorem c9_2_wp (P : Program) (Q : APost) (a : AFr) (σ : ASt) : c9_2.wp P Q a σ = ACode.wp P (.seq c9_1 .ret) Q a σ := id rfl
@[go_sem] theorem c9_3_wp (P : Program) (Q : APost) (a : AFr) (σ : ASt) : c9_3.wp P Q a σ = ACode.wp P (.seq c9_0 c9_2) Q a σ := id rfl
def c9 : AFn := ⟨21, [.t 2], c9_3⟩
set_option maxRecDepth 100000 in
theorem c9_ok : compF Tryd.prog Tryd.f9 = some c9 := by kernel_rfl
theorem a9 {args : List AV} {σ : ASt} {R : AV → ASt → Prop} (hl : args.length ≤ 21) (h : c9_3.wp Tryd.prog (RetQ [.t 2] R) (init args) σ) : ACalls Tryd.prog 9 args σ R := acalls_of Tryd.func9 c9_ok hl h

/-! 10: tabular/tabularlaw10.awake -/
def c10_0 : ACode := .ops [
    ⟨(some 0), none, .q (.mv (.v (.bool false))), []⟩]
def c10_1 : ACode := .ops [
    ⟨(some 8), none, .e (.call 16 [(.v (.str [66, 36, 55, 43, 49]))]), []⟩,
    ⟨(some 7), none, .q (.mv (.t 8)), []⟩,
    ⟨(some 9), none, .q (.ext 0 (.t 7)), []⟩,
    ⟨(some 10), none, .q (.ext 1 (.t 7)), []⟩,
    ⟨(some 1), none, .e (.alloc [(.int .i64 0), (.int .i64 0), (.bool false), (.bool false)]), []⟩,
    ⟨none, none, .e (.store 4 (.t 1) (.t 9)), []⟩,
    ⟨(some 2), none, .q (.mv (.t 10)), []⟩]
def c10_2 : ACode := .ops [
    ⟨(some 12), none, .e (.call 16 [(.v (.str [65, 49, 66]))]), []⟩,
    ⟨(some 11), none, .q (.mv (.t 12)), []⟩,
    ⟨(some 13), none, .q (.ext 0 (.t 11)), []⟩,
    ⟨(some 14), none, .q (.ext 1 (.t 11)), []⟩,
    ⟨(some 3), none, .e (.alloc [(.int .i64 0), (.int .i64 0), (.bool false), (.bool false)]), []⟩,
    ⟨none, none, .e (.store 4 (.t 3) (.t 13)), []⟩,
    ⟨(some 4), none, .q (.mv (.t 14)), []⟩]
def c10_3 : ACode := .ops [
    ⟨(some 16), none, .e (.call 13 [(.v (.str [67, 51, 58, 65, 49]))]), []⟩,
    ⟨(some 15), none, .q (.mv (.t 16)), []⟩,
    ⟨(some 17), none, .q (.ext 0 (.t 15)), []⟩,
    ⟨(some 18), none, .q (.ext 1 (.t 15)), []⟩,
    ⟨(some 5), none, .e (.alloc [(.int .i64 0), (.int .i64 0), (.bool false), (.bool false), (.int .i64 0), (.int .i64 0), (.bool false), (.bool false)]), []⟩,
    ⟨none, none, .e (.store 8 (.t 5) (.t 17)), []⟩,
    ⟨(some 6), none, .q (.mv (.t 18)), []⟩]
def c10_4 : ACode := .ops [
    ⟨(some 19), none, .e (.call 27 [(.v (.int .i64 27))]), []⟩,
    ⟨(some 20), none, .q (.bin .eql (.t 19) (.v (.str [65, 66]))), []⟩,
    ⟨(some 21), none, .q (.mv (.t 20)), []⟩,
    ⟨(some 22), (some (21, true)), .q (.ld (some 4) (.t 1)), []⟩,
    ⟨(some 23), (some (21, true)), .q (.build [(.int .i64 0), (.int .i64 0), (.bool false), (.bool false)] [(0, 1, (.v (.int .i64 6))), (1, 1, (.v (.int .i64 1))), (2, 1, (.v (.bool true)))]), []⟩,
    ⟨(some 24), (some (21, true)), .q (.eqs false [(0, 0), (1, 0), (2, 1), (3, 1)] (.t 22) (.t 23)), []⟩,
    ⟨(some 25), none, .q (.pick (.t 21) (.t 24) (.v (.bool false))), []⟩,
    ⟨(some 26), none, .q (.mv (.t 25)), []⟩,
    ⟨(some 27), (some (26, true)), .q (.mv (.t 2)), []⟩,
    ⟨(some 28), (some (26, true)), .q (.bin .eql (.t 27) (.v (.int .i64 3))), []⟩,
    ⟨(some 29), none, .q (.pick (.t 26) (.t 28) (.v (.bool false))), []⟩,
    ⟨(some 30), none, .q (.mv (.t 29)), []⟩,
    ⟨(some 31), (some (30, true)), .q (.mv (.t 4)), []⟩,
    ⟨(some 32), (some (30, true)), .q (.bin .eql (.t 31) (.v (.int .i64 0))), []⟩,
    ⟨(some 33), none, .q (.pick (.t 30) (.t 32) (.v (.bool false))), []⟩,
    ⟨(some 34), none, .q (.mv (.t 33)), []⟩,
    ⟨(some 35), (some (34, true)), .q (.mv (.t 6)), []⟩,
    ⟨(some 36), none, .q (.pick (.t 34) (.t 35) (.v (.bool false))), []⟩,
    ⟨(some 37), none, .q (.mv (.t 36)), []⟩,
    ⟨(some 38), (some (37, true)), .q (.ld (some 8) (.t 5)), []⟩,
    ⟨(some 39), (some (37, true)), .e (.call 28 [(.t 38)]), []⟩,
    ⟨(some 40), (some (37, true)), .q (.build [(.int .i64 0), (.int .i64 0), (.int .i64 0), (.int .i64 0)] [(2, 1, (.v (.int .i64 3))), (3, 1, (.v (.int .i64 3)))]), []⟩,
    ⟨(some 41), (some (37, true)), .q (.eqs false [(0, 0), (1, 0), (2, 0), (3, 0)] (.t 39) (.t 40)), []⟩,
    ⟨(some 42), none, .q (.pick (.t 37) (.t 41) (.v (.bool false))), []⟩,
    ⟨(some 0), none, .q (.mv (.t 42)), []⟩]
def c10_5 : ACode := .seq c10_4 .ret
def c10_6 : ACode := .seq c10_3 c10_5
def c10_7 : ACode := .seq c10_2 c10_6
def c10_8 : ACode := .seq c10_1 c10_7
def c10_9 : ACode := .seq c10_0 c10_8
@[go_sem] theorem c10_0_wp (P : Program) (Q : APost) (a : AFr) (σ : ASt) : c10_0.wp P Q a σ = ACode.wp P (.ops [
    ⟨(some 0), none, .q (.mv (.v (.bool false))), []⟩]) Q a σ := id rfl
@[go_sem] theorem c10_1_wp (P : Program) (Q : APost) (a : AFr) (σ : ASt) : c10_1.wp P Q a σ = ACode.wp P (.ops [
    ⟨(some 8), none, .e (.call 16 [(.v (.str [66, 36, 55, 43, 49]))]), []⟩,
    ⟨(some 7), none, .q (.mv (.t 8)), []⟩,
    ⟨(some 9), none, .q (.ext 0 (.t 7)), []⟩,
    ⟨(some 10), none, .q (.ext 1 (.t 7)), []⟩,
    ⟨(some 1), none, .e (.alloc [(.int .i64 0), (.int .i64 0), (.bool false), (.bool false)]), []⟩,
    ⟨none, none, .e (.store 4 (.t 1) (.t 9)), []⟩,
    ⟨(some 2), none, .q (.mv (.t 10)), []⟩]) Q a σ := id rfl
@[go_sem] theorem c10_2_wp (P : Program) (Q : APost) (a : AFr) (σ : ASt) : c10_2.wp P Q a σ = ACode.wp P (.ops [
    ⟨(some 12), none, .e (.call 16 [(.v (.str [65, 49, 66]))]), []⟩,
    ⟨(some 11), none, .q (.mv (.t 12)), []⟩,
    ⟨(some 13), none, .q (.ext 0 (.t 11)), []⟩,
    ⟨(some 14), none, .q (.ext 1 (.t 11)), []⟩,
    ⟨(some 3), none, .e (.alloc [(.int .i64 0), (.int .i64 0), (.bool false), (.bool false)]), []⟩,
    ⟨none, none, .e (.store 4 (.t 3) (.t 13)), []⟩,
    ⟨(some 4), none, .q (.mv (.t 14)), []⟩]) Q a σ := id rfl
@[go_sem] theorem c10_3_wp (P : Program) (Q : APost) (a : AFr) (σ : ASt) : c10_3.wp P Q a σ = ACode.wp P (.ops [
    ⟨(some 16), none, .e (.call 13 [(.v (.str [67, 51, 58, 65, 49]))]), []⟩,
    ⟨(some 15), none, .q (.mv (.t 16)), []⟩,
    ⟨(some 17), none, .q (.ext 0 (.t 15)), []⟩,
    ⟨(some 18), none, .q (.ext 1 (.t 15)), []⟩,
    ⟨(some 5), none, .e (.alloc [(.int .i64 0), (.int .i64 0), (.bool false), (.bool false), (.int .i64 0), (.int .i64 0), (.bool false), (.bool false)]), []⟩,
    ⟨none, none, .e (.store 8 (.t 5) (.t 17)), []⟩,
    ⟨(some 6), none, .q (.mv (.t 18)), []⟩]) Q a σ := id rfl
@[go_sem] theorem c10_4_wp (P : Program) (Q : APost) (a : AFr) (σ : ASt) : c10_4.wp P Q a σ = ACode.wp P (.ops [
    ⟨(some 19), none, .e (.call 27 [(.v (.int .i64 27))]), []⟩,
    ⟨(some 20), none, .q (.bin .eql (.t 19) (.v (.str [65, 66]))), []⟩,
    ⟨(some 21), none, .q (.mv (.t 20)), []⟩,
    ⟨(some 22), (some (21, true)), .q (.ld (some 4) (.t 1)), []⟩,
    ⟨(some 23), (some (21, true)), .q (.build [(.int .i64 0), (.int .i64 0), (.bool false), (.bool false)] [(0, 1, (.v (.int .i64 6))), (1, 1, (.v (.int .i64 1))), (2, 1, (.v (.bool true)))]), []⟩,
    ⟨(some 24), (some (21, true)), .q (.eqs false [(0, 0), (1, 0), (2, 1), (3, 1)] (.t 22) (.t 23)), []⟩,
    ⟨(some 25), none, .q (.pick (.t 21) (.t 24) (.v (.bool false))), []⟩,
    ⟨(some 26), none, .q (.mv (.t 25)), []⟩,
    ⟨(some 27), (some (26, true)), .q (.mv (.t 2)), []⟩,
    ⟨(some 28), (some (26, true)), .q (.bin .eql (.t 27) (.v (.int .i64 3))), []⟩,
    ⟨(some 29), none, .q (.pick (.t 26) (.t 28) (.v (.bool false))), []⟩,
    ⟨(some 30), none, .q (.mv (.t 29)), []⟩,
    ⟨(some 31), (some (30, true)), .q (.mv (.t 4)), []⟩,
    ⟨(some 32), (some (30, true)), .q (.bin .eql (.t 31) (.v (.int .i64 0))), []⟩,
    ⟨(some 33), none, .q (.pick (.t 30) (.t 32) (.v (.bool false))), []⟩,
    ⟨(some 34), none, .q (.mv (.t 33)), []⟩,
    ⟨(some 35), (some (34, true)), .q (.mv (.t 6)), []⟩,
    ⟨(some 36), none, .q (.pick (.t 34) (.t 35) (.v (.bool false))), []⟩,
    ⟨(some 37), none, .q (.mv (.t 36)), []⟩,
    ⟨(some 38), (some (37, true)), .q (.ld (some 8) (.t 5)), []⟩,
    ⟨(some 39), (some (37, true)), .e (.call 28 [(.t 38)]), []⟩,
    ⟨(some 40), (some (37, true)), .q (.build [(.int .i64 0), (.int .i64 0), (.int .i64 0), (.int .i64 0)] [(2, 1, (.v (.int .i64 3))), (3, 1, (.v (.int .i64 3)))]), []⟩,
    ⟨(some 41), (some (37, true)), .q (.eqs false [(0, 0), (1, 0), (2, 0), (3, 0)] (.t 39) (.t 40)), []⟩,
    ⟨(some 42), none, .q (.pick (.t 37) (.t 41) (.v (.bool false))), []⟩,
    ⟨(some 0), none, .q (.mv (.t 42)), []⟩]) Q a σ := id rfl
@[go_sem] theorem c10_5_wp (P : Program) (Q : APost) (a : AFr) (σ : ASt) : c10_5.wp P Q a σ = ACode.wp P (.seq c10_4 .ret) Q a σ := id rfl
@[go_sem] theorem c10_6_wp (P : Program) (Q : APost) (a : AFr) (σ : ASt) : c10_6.wp P Q a σ = ACode.wp P (.seq c10_3 c10_5) Q a σ := id rfl
@[go_sem] theorem c10_7_wp (P : Program) (Q : APost) (a : AFr) (σ : ASt) : c10_7.wp P Q a σ = ACode.wp P (.seq c10_2 c10_6) Q a σ := id rfl
@[go_sem] theorem c10_8_wp (P : Program) (Q : APost) (a : AFr) (σ : ASt) : c10_8.wp P Q a σ = ACode.wp P (.seq c10_1 c10_7) Q a σ := id rfl
@[go_sem] theorem c10_9_wp (P : Program) (Q : APost) (a : AFr) (σ : ASt) : c10_9.wp P Q a σ = ACode.wp P (.seq c10_0 c10_8) Q a σ := id rfl
def c10 : AFn := ⟨43, [.t 0], c10_9⟩
set_option maxRecDepth 100000 in
theorem c10_ok : compF Tryd.prog Tryd.f10 = some c10 := by kernel_rfl
theorem a10 {args : List AV} {σ : ASt} {R : AV → ASt → Prop} (hl : args.length ≤ 43) (h : c10_9.wp Tryd.prog (RetQ [.t 0] R) (init args) σ) : ACalls Tryd.prog 10 args σ R := acalls_of Tryd.func10 c10_ok hl h

/-! 11: tabular/addr.Parse -/
def c11_0 : ACode := .ops [
    ⟨(some 2), none, .e (.alloc [(.int .i64 0), (.int .i64 0), (.bool false), (.bool false)]), []⟩,
    ⟨(some 3), none, .q (.mv (.v (.bool false))), []⟩]
def c11_1 : ACode := .ops [
    ⟨(some 7), none, .q (.mv (.t 0)), []⟩,
    ⟨(some 8), none, .e (.call 16 [(.t 7)]), []⟩,
    ⟨(some 6), none, .q (.mv (.t 8)), []⟩,
    ⟨(some 9), none, .q (.ext 0 (.t 6)), []⟩,
    ⟨(some 10), none, .q (.ext 1 (.t 6)), []⟩,
    ⟨(some 4), none, .e (.alloc [(.int .i64 0), (.int .i64 0), (.bool false), (.bool false)]), []⟩,
    ⟨none, none, .e (.store 4 (.t 4) (.t 9)), []⟩,
    ⟨(some 5), none, .q (.mv (.t 10)), []⟩]
def c11_2 : ACode := .ops [
    ⟨(some 11), none, .q (.mv (.t 5)), []⟩,
    ⟨(some 12), none, .q (.bin .eql (.t 11) (.v (.int .i64 0))), []⟩,
    ⟨(some 13), none, .q (.mv (.t 12)), []⟩,
    ⟨(some 14), (some (13, false)), .q (.mv (.t 5)), []⟩,
    ⟨(some 15), (some (13, false)), .q (.mv (.t 0)), []⟩,
    ⟨(some 16), (some (13, false)), .q (.lenS (.t 15)), []⟩,
    ⟨(some 17), (some (13, false)), .q (.bin .lss (.t 14) (.t 16)), []⟩,
    ⟨(some 18), none, .q (.pick (.t 13) (.v (.bool true)) (.t 17)), []⟩]
def c11_3 : ACode := .ops [
    ⟨(some 19), none, .q (.build [(.int .i64 0), (.int .i64 0), (.bool false), (.bool false)] []), []⟩,
    ⟨none, none, .e (.store 4 (.t 2) (.t 19)), []⟩,
    ⟨(some 3), none, .q (.mv (.v (.bool false))), []⟩]
def c11_4 : ACode := .seq c11_3 .ret
def c11_5 : ACode := .cond (.t 18) c11_4 .skip
def c11_6 : ACode := .seq c11_2 c11_5
def c11_7 : ACode := .ops [
    ⟨(some 20), none, .q (.ld (some 4) (.t 4)), []⟩,
    ⟨none, none, .e (.store 4 (.t 2) (.t 20)), []⟩,
    ⟨(some 3), none, .q (.mv (.v (.bool true))), []⟩]
def c11_8 : ACode := .seq c11_7 .ret
def c11_9 : ACode := .seq c11_6 c11_8
def c11_10 : ACode := .seq c11_1 c11_9
def c11_11 : ACode := .seq c11_0 c11_10
@[go_sem] theorem c11_0_wp (P : Program) (Q : APost) (a : AFr) (σ : ASt) : c11_0.wp P Q a σ = ACode.wp P (.ops [
    ⟨(some 2), none, .e (.alloc [(.int .i64 0), (.int .i64 0), (.bool false), (.bool false)]), []⟩,
    ⟨(some 3), none, .q (.mv (.v (.bool false))), []⟩]) Q a σ := id rfl
@[go_sem] theorem c11_1_wp (P : Program) (Q : APost) (a : AFr) (σ : ASt) : c11_1.wp P Q a σ = ACode.wp P (.ops [
    ⟨(some 7), none, .q (.mv (.t 0)), []⟩,
    ⟨(some 8), none, .e (.call 16 [(.t 7)]), []⟩,
    ⟨(some 6), none, .q (.mv (.t 8)), []⟩,
    ⟨(some 9), none, .q (.ext 0 (.t 6)), []⟩,
    ⟨(some 10), none, .q (.ext 1 (.t 6)), []⟩,
    ⟨(some 4), none, .e (.alloc [(.int .i64 0), (.int .i64 0), (.bool false), (.bool false)]), []⟩,
    ⟨none, none, .e (.store 4 (.t 4) (.t 9)), []⟩,
    ⟨(some 5), none, .q (.mv (.t 10)), []⟩]) Q a σ := id rfl
@[go_sem] theorem c11_2_wp (P : Program) (Q : APost) (a : AFr) (σ : ASt) : c11_2.wp P Q a σ = ACode.wp P (.ops [
    ⟨(some 11), none, .q (.mv (.t 5)), []⟩,
    ⟨(some 12), none, .q (.bin .eql (.t 11) (.v (.int .i64 0))), []⟩,
    ⟨(some 13), none, .q (.mv (.t 12)), []⟩,
    ⟨(some 14), (some (13, false)), .q (.mv (.t 5)), []⟩,
    ⟨(some 15), (some (13, false)), .q (.mv (.t 0)), []⟩,
    ⟨(some 16), (some (13, false)), .q (.lenS (.t 15)), []⟩,
    ⟨(some 17), (some (13, false)), .q (.bin .lss (.t 14) (.t 16)), []⟩,
    ⟨(some 18), none, .q (.pick (.t 13) (.v (.bool true)) (.t 17)), []⟩]) Q a σ := id rfl
@[go_sem] theorem c11_3_wp (P : Program) (Q : APost) (a : AFr) (σ : ASt) : c11_3.wp P Q a σ = ACode.wp P (.ops [
    ⟨(some 19), none, .q (.build [(.int .i64 0), (.int .i64 0), (.bool false), (.bool false)] []), []⟩,
    ⟨none, none, .e (.store 4 (.t 2) (.t 19)), []⟩,
    ⟨(some 3), none, .q (.mv (.v (.bool false))), []⟩]) Q a σ := id rfl
@[go_sem] theorem c11_4_wp (P : Program) (Q : APost) (a : AFr) (σ : ASt) : c11_4.wp P Q a σ = ACode.wp P (.seq c11_3 .ret) Q a σ := id rfl
@[go_sem] theorem c11_5_wp (P : Program) (Q : APost) (a : AFr) (σ : ASt) : c11_5.wp P Q a σ = ACode.wp P (.cond (.t 18) c11_4 .skip) Q a σ := id rfl
@[go_sem] theorem c11_6_wp (P : Program) (Q : APost) (a : AFr) (σ : ASt) : c11_6.wp P Q a σ = ACode.wp P (.seq c11_2 c11_5) Q a σ := id rfl
@[go_sem] theorem c11_7_wp (P : Program) (Q : APost) (a : AFr) (σ : ASt) : c11_7.wp P Q a σ = ACode.wp P (.ops [
    ⟨(some 20), none, .q (.ld (some 4) (.t 4)), []⟩,
    ⟨none, none, .e (.store 4 (.t 2) (.t 20)), []⟩,
    ⟨(some 3), none, .q (.mv (.v (.bool true))), []⟩]) Q a σ := id rfl
@[go_sem] theorem c11_8_wp (P : Program) (Q : APost) (a : AFr) (σ : ASt) : c11_8.wp P Q a σ = ACode.wp P (.seq c11_7 .ret) Q a σ := id rfl
@[go_sem] theorem c11_9_wp (P : Program) (Q : APost) (a : AFr) (σ : ASt) : c11_9.wp P Q a σ = ACode.wp P (.seq c11_6 c11_8) Q a σ := id rfl
@[go_sem] theorem c11_10_wp (P : Program) (Q : APost) (a : AFr) (σ : ASt) : c11_10.wp P Q a σ = ACode.wp P (.seq c11_1 c11_9) Q a σ := id rfl
@[go_sem] theorem c11_11_wp (P : Program) (Q : APost) (a : AFr) (σ : ASt) : c11_11.wp P Q a σ = ACode.wp P (.seq c11_0 c11_10) Q a σ := id rfl
def c11 : AFn := ⟨21, [.c 2 (some 4), .t 3], c11_11⟩
set_option maxRecDepth 100000 in
theorem c11_ok : compF Tryd.prog Tryd.f11 = some c11 := by kernel_rfl
theorem a11 {args : List AV} {σ : ASt} {R : AV → ASt → Prop} (hl : args.length ≤ 21) (h : c11_11.wp Tryd.prog (RetQ [.c 2 (some 4), .t 3] R) (init args) σ) : ACalls Tryd.prog 11 args σ R := acalls_of Tryd.func11 c11_ok hl h

/-! 12: (tabular/addr.Ref).Text -/
def c12_0 : ACode := .ops [
    ⟨(some 1), none, .e (.box (.t 0)), []⟩,
    ⟨(some 2), none, .q (.mv (.v (.str []))), []⟩]
def c12_1 : ACode := .ops [
    ⟨(some 3), none, .q (.fa 3 (.t 1)), []⟩,
    ⟨(some 4), none, .q (.ld none (.t 3)), []⟩,
    ⟨(some 6), none, .q (.fa 1 (.t 1)), []⟩,
    ⟨(some 7), none, .q (.ld none (.t 6)), []⟩,
    ⟨(some 10), none, .q (.fa 2 (.t 1)), []⟩,
    ⟨(some 11), none, .q (.ld none (.t 10)), []⟩,
    ⟨(some 14), none, .q (.fa 0 (.t 1)), []⟩,
    ⟨(some 15), none, .q (.ld none (.t 14)), []⟩,
    ⟨(some 16), none, .q (.bin .add (.t 15) (.v (.int .i64 1))), []⟩,
    ⟨(some 5), none, .e (.call 29 [(.t 4)]), [⟨none, .ld none (.t 6), 7⟩, ⟨none, .ld none (.t 10), 11⟩, ⟨none, .ld none (.t 14), 15⟩]⟩,
    ⟨(some 8), none, .e (.call 27 [(.t 7)]), [⟨none, .ld none (.t 10), 11⟩, ⟨none, .ld none (.t 14), 15⟩]⟩,
    ⟨(some 9), none, .q (.bin .add (.t 5) (.t 8)), []⟩,
    ⟨(some 12), none, .e (.call 29 [(.t 11)]), [⟨none, .ld none (.t 14), 15⟩]⟩,
    ⟨(some 13), none, .q (.bin .add (.t 9) (.t 12)), []⟩,
    ⟨(some 17), none, .e (.call 30 [(.t 16)]), []⟩,
    ⟨(some 18), none, .q (.bin .add (.t 13) (.t 17)), []⟩,
    ⟨(some 2), none, .q (.mv (.t 18)), []⟩]
def c12_2 : ACode := .seq c12_1 .ret
def c12_3 : ACode := .seq c12_0 c12_2
@[go_sem] theorem c12_0_wp (P : Program) (Q : APost) (a : AFr) (σ : ASt) : c12_0.wp P Q a σ = ACode.wp P (.ops [
    ⟨(some 1), none, .e (.box (.t 0)), []⟩,
    ⟨(some 2), none, .q (.mv (.v (.str []))), []⟩]) Q a σ := id rfl
@[go_sem] theorem c12_1_wp (P : Program) (Q : APost) (a : AFr) (σ : ASt) : c12_1.wp P Q a σ = ACode.wp P (.ops [
    ⟨(some 3), none, .q (.fa 3 (.t 1)), []⟩,
    ⟨(some 4), none, .q (.ld none (.t 3)), []⟩,
    ⟨(some 6), none, .q (.fa 1 (.t 1)), []⟩,
    ⟨(some 7), none, .q (.ld none (.t 6)), []⟩,
    ⟨(some 10), none, .q (.fa 2 (.t 1)), []⟩,
    ⟨(some 11), none, .q (.ld none (.t 10)), []⟩,
    ⟨(some 14), none, .q (.fa 0 (.t 1)), []⟩,
    ⟨(some 15), none, .q (.ld none (.t 14)), []⟩,
    ⟨(some 16), none, .q (.bin .add (.t 15) (.v (.int .i64 1))), []⟩,
    ⟨(some 5), none, .e (.call 29 [(.t 4)]), [⟨none, .ld none (.t 6), 7⟩, ⟨none, .ld none (.t 10), 11⟩, ⟨none, .ld none (.t 14), 15⟩]⟩,
    ⟨(some 8), none, .e (.call 27 [(.t 7)]), [⟨none, .ld none (.t 10), 11⟩, ⟨none, .ld none (.t 14), 15⟩]⟩,
    ⟨(some 9), none, .q (.bin .add (.t 5) (.t 8)), []⟩,
    ⟨(some 12), none, .e (.call 29 [(.t 11)]), [⟨none, .ld none (.t 14), 15⟩]⟩,
    ⟨(some 13), none, .q (.bin .add (.t 9) (.t 12)), []⟩,
    ⟨(some 17), none, .e (.call 30 [(.t 16)]), []⟩,
    ⟨(some 18), none, .q (.bin .add (.t 13) (.t 17)), []⟩,
    ⟨(some 2), none, .q (.mv (.t 18)), []⟩]) Q a σ := id rfl
@[go_sem] theorem c12_2_wp (P : Program) (Q : APost) (a : AFr) (σ : ASt) : c12_2.wp P Q a σ = ACode.wp P (.seq c12_1 .ret) Q a σ := id rfl
@[go_sem] theorem c12_3_wp (P : Program) (Q : APost) (a : AFr) (σ : ASt) : c12_3.wp P Q a σ = ACode.wp P (.seq c12_0 c12_2) Q a σ := id rfl
def c12 : AFn := ⟨19, [.t 2], c12_3⟩
set_option maxRecDepth 100000 in
theorem c12_ok : compF Tryd.prog Tryd.f12 = some c12 := by kernel_rfl
theorem a12 {args : List AV} {σ : ASt} {R : AV → ASt → Prop} (hl : args.length ≤ 19) (h : c12_3.wp Tryd.prog (RetQ [.t 2] R) (init args) σ) : ACalls Tryd.prog 12 args σ R := acalls_of Tryd.func12 c12_ok hl h

/-! 13: tabular/addr.ParseArea -/
def c13_0 : ACode := .ops [
    ⟨(some 2), none, .e (.alloc [(.int .i64 0), (.int .i64 0), (.bool false), (.bool false), (.int .i64 0), (.int .i64 0), (.bool false), (.bool false)]), []⟩,
    ⟨(some 3), none, .q (.mv (.v (.bool false))), []⟩]
def c13_1 : ACode := .ops [
    ⟨(some 9), none, .q (.mv (.t 0)), []⟩,
    ⟨(some 10), none, .e (.call 16 [(.t 9)]), []⟩,
    ⟨(some 8), none, .q (.mv (.t 10)), []⟩,
    ⟨(some 11), none, .q (.ext 0 (.t 8)), []⟩,
    ⟨(some 12), none, .q (.ext 1 (.t 8)), []⟩,
    ⟨(some 4), none, .e (.alloc [(.int .i64 0), (.int .i64 0), (.bool false), (.bool false)]), []⟩,
    ⟨none, none, .e (.store 4 (.t 4) (.t 11)), []⟩,
    ⟨(some 5), none, .q (.mv (.t 12)), []⟩]
def c13_2 : ACode := .ops [
    ⟨(some 13), none, .q (.mv (.t 5)), []⟩,
    ⟨(some 14), none, .q (.bin .eql (.t 13) (.v (.int .i64 0))), []⟩]
def c13_3 : ACode := .ops [
    ⟨(some 15), none, .q (.build [(.int .i64 0), (.int .i64 0), (.bool false), (.bool false), (.int .i64 0), (.int .i64 0), (.bool false), (.bool false)] []), []⟩,
    ⟨none, none, .e (.store 8 (.t 2) (.t 15)), []⟩,
    ⟨(some 3), none, .q (.mv (.v (.bool false))), []⟩]
def c13_4 : ACode := .seq c13_3 .ret
def c13_5 : ACode := .cond (.t 14) c13_4 .skip
def c13_6 : ACode := .seq c13_2 c13_5
def c13_7 : ACode := .ops [
    ⟨(some 16), none, .q (.mv (.t 5)), []⟩,
    ⟨(some 17), none, .q (.mv (.t 0)), []⟩,
    ⟨(some 18), none, .q (.lenS (.t 17)), []⟩,
    ⟨(some 19), none, .q (.bin .eql (.t 16) (.t 18)), []⟩]
def c13_8 : ACode := .ops [
    ⟨(some 20), none, .q (.ld (some 4) (.t 4)), []⟩,
    ⟨(some 21), none, .q (.ld (some 4) (.t 4)), []⟩,
    ⟨(some 22), none, .q (.build [(.int .i64 0), (.int .i64 0), (.bool false), (.bool false), (.int .i64 0), (.int .i64 0), (.bool false), (.bool false)] [(0, 4, (.t 20)), (4, 4, (.t 21))]), []⟩,
    ⟨none, none, .e (.store 8 (.t 2) (.t 22)), []⟩,
    ⟨(some 3), none, .q (.mv (.v (.bool true))), []⟩]
def c13_9 : ACode := .seq c13_8 .ret
def c13_10 : ACode := .cond (.t 19) c13_9 .skip
def c13_11 : ACode := .seq c13_7 c13_10
def c13_12 : ACode := .ops [
    ⟨(some 23), none, .q (.mv (.t 0)), []⟩,
    ⟨(some 24), none, .q (.mv (.t 5)), []⟩,
    ⟨(some 25), none, .q (.idx (.t 23) (.t 24)), []⟩,
    ⟨(some 26), none, .q (.bin .neq (.t 25) (.v (.int .u8 58))), []⟩]
def c13_13 : ACode := .ops [
    ⟨(some 27), none, .q (.build [(.int .i64 0), (.int .i64 0), (.bool false), (.bool false), (.int .i64 0), (.int .i64 0), (.bool false), (.bool false)] []), []⟩,
    ⟨none, none, .e (.store 8 (.t 2) (.t 27)), []⟩,
    ⟨(some 3), none, .q (.mv (.v (.bool false))), []⟩]
def c13_14 : ACode := .seq c13_13 .ret
def c13_15 : ACode := .cond (.t 26) c13_14 .skip
def c13_16 : ACode := .seq c13_12 c13_15
def c13_17 : ACode := .ops [
    ⟨(some 29), none, .q (.mv (.t 0)), []⟩,
    ⟨(some 30), none, .q (.mv (.t 5)), []⟩,
    ⟨(some 31), none, .q (.bin .add (.t 30) (.v (.int .i64 1))), []⟩,
    ⟨(some 32), none, .q (.slfrom (true, 0) (.t 29) (.t 31)), []⟩,
    ⟨(some 33), none, .e (.call 11 [(.t 32)]), []⟩,
    ⟨(some 28), none, .q (.mv (.t 33)), []⟩,
    ⟨(some 34), none, .q (.ext 0 (.t 28)), []⟩,
    ⟨(some 35), none, .q (.ext 1 (.t 28)), []⟩,
    ⟨(some 6), none, .e (.alloc [(.int .i64 0), (.int .i64 0), (.bool false), (.bool false)]), []⟩,
    ⟨none, none, .e (.store 4 (.t 6) (.t 34)), []⟩,
    ⟨(some 7), none, .q (.mv (.t 35)), []⟩]
def c13_18 : ACode := .ops [
    ⟨(some 36), none, .q (.mv (.t 7)), []⟩,
    ⟨(some 37), none, .q (.un .not (.t 36)), []⟩]
def c13_19 : ACode := .ops [
    ⟨(some 38), none, .q (.build [(.int .i64 0), (.int .i64 0), (.bool false), (.bool false), (.int .i64 0), (.int .i64 0), (.bool false), (.bool false)] []), []⟩,
    ⟨none, none, .e (.store 8 (.t 2) (.t 38)), []⟩,
    ⟨(some 3), none, .q (.mv (.v (.bool false))), []⟩]
def c13_20 : ACode := .seq c13_19 .ret
def c13_21 : ACode := .cond (.t 37) c13_20 .skip
def c13_22 : ACode := .seq c13_18 c13_21
def c13_23 : ACode := .ops [
    ⟨(some 39), none, .q (.ld (some 4) (.t 4)), []⟩,
    ⟨(some 40), none, .q (.ld (some 4) (.t 6)), []⟩,
    ⟨(some 41), none, .q (.build [(.int .i64 0), (.int .i64 0), (.bool false), (.bool false), (.int .i64 0), (.int .i64 0), (.bool false), (.bool false)] [(0, 4, (.t 39)), (4, 4, (.t 40))]), []⟩,
    ⟨none, none, .e (.store 8 (.t 2) (.t 41)), []⟩,
    ⟨(some 3), none, .q (.mv (.v (.bool true))), []⟩]
def c13_24 : ACode := .seq c13_23 .ret
def c13_25 : ACode := .seq c13_22 c13_24
def c13_26 : ACode := .seq c13_17 c13_25
def c13_27 : ACode := .seq c13_16 c13_26
def c13_28 : ACode := .seq c13_11 c13_27
def c13_29 : ACode := .seq c13_6 c13_28
def c13_30 : ACode := .seq c13_1 c13_29
def c13_31 : ACode := .seq c13_0 c13_30
@[go_sem] theorem c13_0_wp (P : Program) (Q : APost) (a : AFr) (σ : ASt) : c13_0.wp P Q a σ = ACode.wp P (.ops [
    ⟨(some 2), none, .e (.alloc [(.int .i64 0), (.int .i64 0), (.bool false), (.bool false), (.int .i64 0), (.int .i64 0), (.bool false), (.bool false)]), []⟩,
    ⟨(some 3), none, .q (.mv (.v (.bool false))), []⟩]) Q a σ := id rfl
@[go_sem] theorem c13_1_wp (P : Program) (Q : APost) (a : AFr) (σ : ASt) : c13_1.wp P Q a σ = ACode.wp P (.ops [
    ⟨(some 9), none, .q (.mv (.t 0)), []⟩,
    ⟨(some 10), none, .e (.call 16 [(.t 9)]), []⟩,
    ⟨(some 8), none, .q (.mv (.t 10)), []⟩,
    ⟨(some 11), none, .q (.ext 0 (.t 8)), []⟩,
    ⟨(some 12), none, .q (.ext 1 (.t 8)), []⟩,
    ⟨(some 4), none, .e (.alloc [(.int .i64 0), (.int .i64 0), (.bool false), (.bool false)]), []⟩,
    ⟨none, none, .e (.store 4 (.t 4) (.t 11)), []⟩,
    ⟨(some 5), none, .q (.mv (.t 12)), []⟩]) Q a σ := id rfl
@[go_sem] theorem c13_2_wp (P : Program) (Q : APost) (a : AFr) (σ : ASt) : c13_2.wp P Q a σ = ACode.wp P (.ops [
    ⟨(some 13), none, .q (.mv (.t 5)), []⟩,
    ⟨(some 14), none, .q (.bin .eql (.t 13) (.v (.int .i64 0))), []⟩]) Q a σ := id rfl
@[go_sem] theorem c13_3_wp (P : Program) (Q : APost) (a : AFr) (σ : ASt) : c13_3.wp P Q a σ = ACode.wp P (.ops [
    ⟨(some 15), none, .q (.build [(.int .i64 0), (.int .i64 0), (.bool false), (.bool false), (.int .i64 0), (.int .i64 0), (.bool false), (.bool false)] []), []⟩,
    ⟨none, none, .e (.store 8 (.t 2) (.t 15)), []⟩,
    ⟨(some 3), none, .q (.mv (.v (.bool false))), []⟩]) Q a σ := id rfl
@[go_sem] theorem c13_4_wp (P : Program) (Q : APost) (a : AFr) (σ : ASt) : c13_4.wp P Q a σ = ACode.wp P (.seq c13_3 .ret) Q a σ := id rfl
@[go_sem] theorem c13_5_wp (P : Program) (Q : APost) (a : AFr) (σ : ASt) : c13_5.wp P Q a σ = ACode.wp P (.cond (.t 14) c13_4 .skip) Q a σ := id rfl
@[go_sem] theorem c13_6_wp (P : Program) (Q : APost) (a : AFr) (σ : ASt) : c13_6.wp P Q a σ = ACode.wp P (.seq c13_2 c13_5) Q a σ := id rfl
@[go_sem] theorem c13_7_wp (P : Program) (Q : APost) (a : AFr) (σ : ASt) : c13_7.wp P Q a σ = ACode.wp P (.ops [
    ⟨(some 16), none, .q (.mv (.t 5)), []⟩,
    ⟨(some 17), none, .q (.mv (.t 0)), []⟩,
    ⟨(some 18), none, .q (.lenS (.t 17)), []⟩,
    ⟨(some 19), none, .q (.bin .eql (.t 16) (.t 18)), []⟩]) Q a σ := id rfl
@[go_sem] theorem c13_8_wp (P : Program) (Q : APost) (a : AFr) (σ : ASt) : c13_8.wp P Q a σ = ACode.wp P (.ops [
    ⟨(some 20), none, .q (.ld (some 4) (.t 4)), []⟩,
    ⟨(some 21), none, .q (.ld (some 4) (.t 4)), []⟩,
    ⟨(some 22), none, .q (.build [(.int .i64 0), (.int .i64 0), (.bool false), (.bool false), (.int .i64 0), (.int .i64 0), (.bool false), (.bool false)] [(0, 4, (.t 20)), (4, 4, (.t 21))]), []⟩,
    ⟨none, none, .e (.store 8 (.t 2) (.t 22)), []⟩,
    ⟨(some 3), none, .q (.mv (.v (.bool true))), []⟩]) Q a σ := id rfl
@[go_sem] theorem c13_9_wp (P : Program) (Q : APost) (a : AFr) (σ : ASt) : c13_9.wp P Q a σ = ACode.wp P (.seq c13_8 .ret) Q a σ := id rfl
@[go_sem] theorem c13_10_wp (P : Program) (Q : APost) (a : AFr) (σ : ASt) : c13_10.wp P Q a σ = ACode.wp P (.cond (.t 19) c13_9 .skip) Q a σ := id rfl
@[go_sem] theorem c13_11_wp (P : Program) (Q : APost) (a : AFr) (σ : ASt) : c13_11.wp P Q a σ = ACode.wp P (.seq c13_7 c13_10) Q a σ := id rfl
@[go_sem] theorem c13_12_wp (P : Program) (Q : APost) (a : AFr) (σ : ASt) : c13_12.wp P Q a σ = ACode.wp P (.ops [
    ⟨(some 23), none, .q (.mv (.t 0)), []⟩,
    ⟨(some 24), none, .q (.mv (.t 5)), []⟩,
    ⟨(some 25), none, .q (.idx (.t 23) (.t 24)), []⟩,
    ⟨(some 26), none, .q (.bin .neq (.t 25) (.v (.int .u8 58))), []⟩]) Q a σ := id rfl
@[go_sem] theorem c13_13_wp (P : Program) (Q : APost) (a : AFr) (σ : ASt) : c13_13.wp P Q a σ = ACode.wp P (.ops [
    ⟨(some 27), none, .q (.build [(.int .i64 0), (.int .i64 0), (.bool false), (.bool false), (.int .i64 0), (.int .i64 0), (.bool false), (.bool false)] []), []⟩,
    ⟨none, none, .e (.store 8 (.t 2) (.t 27)), []⟩,
    ⟨(some 3), none, .q (.mv (.v (.bool false))), []⟩]) Q a σ := id rfl
@[go_sem] theorem c13_14_wp (P : Program) (Q : APost) (a : AFr) (σ : ASt) : c13_14.wp P Q a σ = ACode.wp P (.seq c13_13 .ret) Q a σ := id rfl
@[go_sem] theorem c13_15_wp (P : Program) (Q : APost) (a : AFr) (σ : ASt) : c13_15.wp P Q a σ = ACode.wp P (.cond (.t 26) c13_14 .skip) Q a σ := id rfl
@[go_sem] theorem c13_16_wp (P : Program) (Q : APost) (a : AFr) (σ : ASt) : c13_16.wp P Q a σ = ACode.wp P (.seq c13_12 c13_15) Q a σ := id rfl
@[go_sem] theorem c13_17_wp (P : Program) (Q : APost) (a : AFr) (σ : ASt) : c13_17.wp P Q a σ = ACode.wp P (.ops [
    ⟨(some 29), none, .q (.mv (.t 0)), []⟩,
    ⟨(some 30), none, .q (.mv (.t 5)), []⟩,
    ⟨(some 31), none, .q (.bin .add (.t 30) (.v (.int .i64 1))), []⟩,
    ⟨(some 32), none, .q (.slfrom (true, 0) (.t 29) (.t 31)), []⟩,
    ⟨(some 33), none, .e (.call 11 [(.t 32)]), []⟩,
    ⟨(some 28), none, .q (.mv (.t 33)), []⟩,
    ⟨(some 34), none, .q (.ext 0 (.t 28)), []⟩,
    ⟨(some 35), none, .q (.ext 1 (.t 28)), []⟩,
    ⟨(some 6), none, .e (.alloc [(.int .i64 0), (.int .i64 0), (.bool false), (.bool false)]), []⟩,
    ⟨none, none, .e (.store 4 (.t 6) (.t 34)), []⟩,
    ⟨(some 7), none, .q (.mv (.t 35)), []⟩]) Q a σ := id rfl
@[go_sem] theorem c13_18_wp (P : Program) (Q : APost) (a : AFr) (σ : ASt) : c13_18.wp P Q a σ = ACode.wp P (.ops [
    ⟨(some 36), none, .q (.mv (.t 7)), []⟩,
    ⟨(some 37), none, .q (.un .not (.t 36)), []⟩]) Q a σ := id rfl
@[go_sem] theorem c13_19_wp (P : Program) (Q : APost) (a : AFr) (σ : ASt) : c13_19.wp P Q a σ = ACode.wp P (.ops [
    ⟨(some 38), none, .q (.build [(.int .i64 0), (.int .i64 0), (.bool false), (.bool false), (.int .i64 0), (.int .i64 0), (.bool false), (.bool false)] []), []⟩,
    ⟨none, none, .e (.store 8 (.t 2) (.t 38)), []⟩,
    ⟨(some 3), none, .q (.mv (.v (.bool false))), []⟩]) Q a σ := id rfl
@[go_sem] theorem c13_20_wp (P : Program) (Q : APost) (a : AFr) (σ : ASt) : c13_20.wp P Q a σ = ACode.wp P (.seq c13_19 .ret) Q a σ := id rfl
@[go_sem] theorem c13_21_wp (P : Program) (Q : APost) (a : AFr) (σ : ASt) : c13_21.wp P Q a σ = ACode.wp P (.cond (.t 37) c13_20 .skip) Q a σ := id rfl
@[go_sem] theorem c13_22_wp (P : Program) (Q : APost) (a : AFr) (σ : ASt) : c13_22.wp P Q a σ = ACode.wp P (.seq c13_18 c13_21) Q a σ := id rfl
@[go_sem] theorem c13_23_wp (P : Program) (Q : APost) (a : AFr) (σ : ASt) : c13_23.wp P Q a σ = ACode.wp P (.ops [
    ⟨(some 39), none, .q (.ld (some 4) (.t 4)), []⟩,
    ⟨(some 40), none, .q (.ld (some 4) (.t 6)), []⟩,
    ⟨(some 41), none, .q (.build [(.int .i64 0), (.int .i64 0), (.bool false), (.bool false), (.int .i64 0), (.int .i64 0), (.bool false), (.bool false)] [(0, 4, (.t 39)), (4, 4, (.t 40))]), []⟩,
    ⟨none, none, .e (.store 8 (.t 2) (.t 41)), []⟩,
    ⟨(some 3), none, .q (.mv (.v (.bool true))), []⟩]) Q a σ := id rfl
@[go_sem] theorem c13_24_wp (P : Program) (Q : APost) (a : AFr) (σ : ASt) : c13_24.wp P Q a σ = ACode.wp P (.seq c13_23 .ret) Q a σ := id rfl
@[go_sem] theorem c13_25_wp (P : Program) (Q : APost) (a : AFr) (σ : ASt) : c13_25.wp P Q a σ = ACode.wp P (.seq c13_22 c13_24) Q a σ := id rfl
@[go_sem] theorem c13_26_wp (P : Program) (Q : APost) (a : AFr) (σ : ASt) : c13_26.wp P Q a σ = ACode.wp P (.seq c13_17 c13_25) Q a σ := id rfl
@[go_sem] theorem c13_27_wp (P : Program) (Q : APost) (a : AFr) (σ : ASt) : c13_27.wp P Q a σ = ACode.wp P (.seq c13_16 c13_26) Q a σ := id rfl
@[go_sem] theorem c13_28_wp (P : Program) (Q : APost) (a : AFr) (σ : ASt) : c13_28.wp P Q a σ = ACode.wp P (.seq c13_11 c13_27) Q a σ := id rfl
@[go_sem] theorem c13_29_wp (P : Program) (Q : APost) (a : AFr) (σ : ASt) : c13_29.wp P Q a σ = ACode.wp P (.seq c13_6 c13_28) Q a σ := id rfl
@[go_sem] theorem c13_30_wp (P : Program) (Q : APost) (a : AFr) (σ : ASt) : c13_30.wp P Q a σ = ACode.wp P (.seq c13_1 c13_29) Q a σ := id rfl
@[go_sem] theorem c13_31_wp (P : Program) (Q : APost) (a : AFr) (σ : ASt) : c13_31.wp P Q a σ = ACode.wp P (.seq c13_0 c13_30) Q a σ := id rfl
def c13 : AFn := ⟨42, [.c 2 (some 8), .t 3], c13_31⟩
set_option maxRecDepth 100000 in
theorem c13_ok : compF Tryd.prog Tryd.f13 = some c13 := by kernel_rfl
theorem a13 {args : List AV} {σ : ASt} {R : AV → ASt → Prop} (hl : args.length ≤ 42) (h : c13_31.wp Tryd.prog (RetQ [.c 2 (some 8), .t 3] R) (init args) σ) : ACalls Tryd.prog 13 args σ R := acalls_of Tryd.func13 c13_ok hl h

/-! 14: (tabular/addr.Area).Text -/
def c14_0 : ACode := .ops [
    ⟨(some 1), none, .e (.box (.t 0)), []⟩,
    ⟨(some 2), none, .q (.mv (.v (.str []))), []⟩]
def c14_1 : ACode := .ops [
    ⟨(some 3), none, .q (.fa 0 (.t 1)), []⟩,
    ⟨(some 4), none, .q (.ld (some 4) (.t 3)), []⟩,
    ⟨(some 7), none, .q (.fa 4 (.t 1)), []⟩,
    ⟨(some 8), none, .q (.ld (some 4) (.t 7)), []⟩,
    ⟨(some 5), none, .e (.call 12 [(.t 4)]), [⟨none, .ld (some 4) (.t 7), 8⟩]⟩,
    ⟨(some 6), none, .q (.bin .add (.t 5) (.v (.str [58]))), []⟩,
    ⟨(some 9), none, .e (.call 12 [(.t 8)]), []⟩,
    ⟨(some 10), none, .q (.bin .add (.t 6) (.t 9)), []⟩,
    ⟨(some 2), none, .q (.mv (.t 10)), []⟩]
def c14_2 : ACode := .seq c14_1 .ret
def c14_3 : ACode := .seq c14_0 c14_2
@[go_sem] theorem c14_0_wp (P : Program) (Q : APost) (a : AFr) (σ : ASt) : c14_0.wp P Q a σ = ACode.wp P (.ops [
    ⟨(some 1), none, .e (.box (.t 0)), []⟩,
    ⟨(some 2), none, .q (.mv (.v (.str []))), []⟩]) Q a σ := id rfl
@[go_sem] theorem c14_1_wp (P : Program) (Q : APost) (a : AFr) (σ : ASt) : c14_1.wp P Q a σ = ACode.wp P (.ops [
    ⟨(some 3), none, .q (.fa 0 (.t 1)), []⟩,
    ⟨(some 4), none, .q (.ld (some 4) (.t 3)), []⟩,
    ⟨(some 7), none, .q (.fa 4 (.t 1)), []⟩,
    ⟨(some 8), none, .q (.ld (some 4) (.t 7)), []⟩,
    ⟨(some 5), none, .e (.call 12 [(.t 4)]), [⟨none, .ld (some 4) (.t 7), 8⟩]⟩,
    ⟨(some 6), none, .q (.bin .add (.t 5) (.v (.str [58]))), []⟩,
    ⟨(some 9), none, .e (.call 12 [(.t 8)]), []⟩,
    ⟨(some 10), none, .q (.bin .add (.t 6) (.t 9)), []⟩,
    ⟨(some 2), none, .q (.mv (.t 10)), []⟩]) Q a σ := id rfl
@[go_sem] theorem c14_2_wp (P : Program) (Q : APost) (a : AFr) (σ : ASt) : c14_2.wp P Q a σ = ACode.wp P (.seq c14_1 .ret) Q a σ := id rfl
@[go_sem] theorem c14_3_wp (P : Program) (Q : APost) (a : AFr) (σ : ASt) : c14_3.wp P Q a σ = ACode.wp P (.seq c14_0 c14_2) Q a σ := id rfl
def c14 : AFn := ⟨11, [.t 2], c14_3⟩
set_option maxRecDepth 100000 in
theorem c14_ok : compF Tryd.prog Tryd.f14 = some c14 := by kernel_rfl
theorem a14 {args : List AV} {σ : ASt} {R : AV → ASt → Prop} (hl : args.length ≤ 11) (h : c14_3.wp Tryd.prog (RetQ [.t 2] R) (init args) σ) : ACalls Tryd.prog 14 args σ R := acalls_of Tryd.func14 c14_ok hl h

/-! 16: tabular/addr.Read -/
def c16_0 : ACode := .ops [
    ⟨(some 2), none, .e (.alloc [(.int .i64 0), (.int .i64 0), (.bool false), (.bool false)]), []⟩,
    ⟨(some 3), none, .q (.mv (.v (.int .i64 0))), []⟩]
def c16_1 : ACode := .ops [
    ⟨(some 4), none, .e (.alloc [(.int .i64 0), (.int .i64 0), (.bool false), (.bool false)]), []⟩]
def c16_2 : ACode := .ops [
    ⟨(some 5), none, .q (.mv (.v (.int .i64 0))), []⟩]
def c16_3 : ACode := .ops [
    ⟨(some 11), none, .q (.mv (.t 5)), []⟩,
    ⟨(some 12), none, .q (.mv (.t 0)), []⟩,
    ⟨(some 13), none, .q (.lenS (.t 12)), []⟩,
    ⟨(some 14), none, .q (.bin .lss (.t 11) (.t 13)), []⟩,
    ⟨(some 15), none, .q (.mv (.t 14)), []⟩,
    ⟨(some 16), (some (15, true)), .q (.mv (.t 0)), []⟩,
    ⟨(some 17), (some (15, true)), .q (.mv (.t 5)), []⟩,
    ⟨(some 18), (some (15, true)), .q (.idx (.t 16) (.t 17)), []⟩,
    ⟨(some 19), (some (15, true)), .q (.bin .eql (.t 18) (.v (.int .u8 36))), []⟩,
    ⟨(some 20), none, .q (.pick (.t 15) (.t 19) (.v (.bool false))), []⟩]
def c16_4 : ACode := .ops [
    ⟨(some 21), none, .q (.fa 3 (.t 4)), []⟩,
    ⟨none, none, .e (.store 1 (.t 21) (.v (.bool true))), []⟩]
def c16_5 : ACode := .ops [
    ⟨(some 22), none, .q (.mv (.t 5)), []⟩,
    ⟨(some 23), none, .q (.bin .add (.t 22) (.v (.int .i64 1))), []⟩,
    ⟨(some 5), none, .q (.mv (.t 23)), []⟩]
def c16_6 : ACode := .seq c16_4 c16_5
def c16_7 : ACode := .cond (.t 20) c16_6 .skip
def c16_8 : ACode := .seq c16_3 c16_7
def c16_9 : ACode := .ops [
    ⟨(some 24), none, .q (.mv (.t 5)), []⟩,
    ⟨(some 6), none, .q (.mv (.t 24)), []⟩]
def c16_10 : ACode := .ops [
    ⟨(some 25), none, .q (.mv (.t 5)), []⟩,
    ⟨(some 26), none, .q (.mv (.t 0)), []⟩,
    ⟨(some 27), none, .q (.lenS (.t 26)), []⟩,
    ⟨(some 28), none, .q (.bin .lss (.t 25) (.t 27)), []⟩,
    ⟨(some 29), none, .q (.mv (.t 28)), []⟩,
    ⟨(some 30), (some (29, true)), .q (.mv (.t 0)), []⟩,
    ⟨(some 31), (some (29, true)), .q (.mv (.t 5)), []⟩,
    ⟨(some 32), (some (29, true)), .q (.idx (.t 30) (.t 31)), []⟩,
    ⟨(some 33), (some (29, true)), .e (.call 31 [(.t 32)]), []⟩,
    ⟨(some 34), (some (29, true)), .q (.bin .gtr (.t 33) (.v (.int .i64 0))), []⟩,
    ⟨(some 35), none, .q (.pick (.t 29) (.t 34) (.v (.bool false))), []⟩]
def c16_11 : ACode := .cond (.t 35) .skip (.exit 0)
def c16_12 : ACode := .seq c16_10 c16_11
def c16_13 : ACode := .ops [
    ⟨(some 36), none, .q (.mv (.t 5)), []⟩,
    ⟨(some 37), none, .q (.bin .add (.t 36) (.v (.int .i64 1))), []⟩,
    ⟨(some 5), none, .q (.mv (.t 37)), []⟩]
def c16_14 : ACode := .block 1 c16_13
def c16_15 : ACode := .seq c16_12 c16_14
def c16_16 : ACode := .loop c16_15
def c16_17 : ACode := .block 0 c16_16
def c16_18 : ACode := .ops [
    ⟨(some 39), none, .q (.mv (.t 0)), []⟩,
    ⟨(some 40), none, .q (.mv (.t 6)), []⟩,
    ⟨(some 41), none, .q (.mv (.t 5)), []⟩,
    ⟨(some 42), none, .q (.sls (true, 0) (.t 39) (.t 40) (.t 41)), []⟩,
    ⟨(some 43), none, .e (.call 32 [(.t 42)]), []⟩,
    ⟨(some 38), none, .q (.mv (.t 43)), []⟩,
    ⟨(some 44), none, .q (.ext 0 (.t 38)), []⟩,
    ⟨(some 45), none, .q (.ext 1 (.t 38)), []⟩,
    ⟨(some 7), none, .q (.mv (.t 44)), []⟩,
    ⟨(some 8), none, .q (.mv (.t 45)), []⟩]
def c16_19 : ACode := .ops [
    ⟨(some 46), none, .q (.mv (.t 8)), []⟩,
    ⟨(some 47), none, .q (.un .not (.t 46)), []⟩]
def c16_20 : ACode := .ops [
    ⟨(some 48), none, .q (.build [(.int .i64 0), (.int .i64 0), (.bool false), (.bool false)] []), []⟩,
    ⟨none, none, .e (.store 4 (.t 2) (.t 48)), []⟩,
    ⟨(some 3), none, .q (.mv (.v (.int .i64 0))), []⟩]
def c16_21 : ACode := .seq c16_20 .ret
def c16_22 : ACode := .cond (.t 47) c16_21 .skip
def c16_23 : ACode := .seq c16_19 c16_22
def c16_24 : ACode := .ops [
    ⟨(some 49), none, .q (.mv (.t 5)), []⟩,
    ⟨(some 50), none, .q (.mv (.t 0)), []⟩,
    ⟨(some 51), none, .q (.lenS (.t 50)), []⟩,
    ⟨(some 52), none, .q (.bin .lss (.t 49) (.t 51)), []⟩,
    ⟨(some 53), none, .q (.mv (.t 52)), []⟩,
    ⟨(some 54), (some (53, true)), .q (.mv (.t 0)), []⟩,
    ⟨(some 55), (some (53, true)), .q (.mv (.t 5)), []⟩,
    ⟨(some 56), (some (53, true)), .q (.idx (.t 54) (.t 55)), []⟩,
    ⟨(some 57), (some (53, true)), .q (.bin .eql (.t 56) (.v (.int .u8 36))), []⟩,
    ⟨(some 58), none, .q (.pick (.t 53) (.t 57) (.v (.bool false))), []⟩]
def c16_25 : ACode := .ops [
    ⟨(some 59), none, .q (.fa 2 (.t 4)), []⟩,
    ⟨none, none, .e (.store 1 (.t 59) (.v (.bool true))), []⟩]
def c16_26 : ACode := .ops [
    ⟨(some 60), none, .q (.mv (.t 5)), []⟩,
    ⟨(some 61), none, .q (.bin .add (.t 60) (.v (.int .i64 1))), []⟩,
    ⟨(some 5), none, .q (.mv (.t 61)), []⟩]
def c16_27 : ACode := .seq c16_25 c16_26
def c16_28 : ACode := .cond (.t 58) c16_27 .skip
def c16_29 : ACode := .seq c16_24 c16_28
def c16_30 : ACode := .ops [
    ⟨(some 62), none, .q (.mv (.t 5)), []⟩,
    ⟨(some 9), none, .q (.mv (.v (.int .i64 0))), []⟩,
    ⟨(some 10), none, .q (.mv (.t 62)), []⟩]
def c16_31 : ACode := .ops [
    ⟨(some 63), none, .q (.mv (.t 5)), []⟩,
    ⟨(some 64), none, .q (.mv (.t 0)), []⟩,
    ⟨(some 65), none, .q (.lenS (.t 64)), []⟩,
    ⟨(some 66), none, .q (.bin .lss (.t 63) (.t 65)), []⟩,
    ⟨(some 67), none, .q (.mv (.t 66)), []⟩,
    ⟨(some 68), (some (67, true)), .q (.mv (.t 0)), []⟩,
    ⟨(some 69), (some (67, true)), .q (.mv (.t 5)), []⟩,
    ⟨(some 70), (some (67, true)), .q (.idx (.t 68) (.t 69)), []⟩,
    ⟨(some 71), (some (67, true)), .q (.bin .geq (.t 70) (.v (.int .u8 48))), []⟩,
    ⟨(some 72), none, .q (.pick (.t 67) (.t 71) (.v (.bool false))), []⟩,
    ⟨(some 73), none, .q (.mv (.t 72)), []⟩,
    ⟨(some 74), (some (73, true)), .q (.mv (.t 0)), []⟩,
    ⟨(some 75), (some (73, true)), .q (.mv (.t 5)), []⟩,
    ⟨(some 76), (some (73, true)), .q (.idx (.t 74) (.t 75)), []⟩,
    ⟨(some 77), (some (73, true)), .q (.bin .leq (.t 76) (.v (.int .u8 57))), []⟩,
    ⟨(some 78), none, .q (.pick (.t 73) (.t 77) (.v (.bool false))), []⟩]
def c16_32 : ACode := .cond (.t 78) .skip (.exit 2)
def c16_33 : ACode := .seq c16_31 c16_32
def c16_34 : ACode := .ops [
    ⟨(some 79), none, .q (.mv (.t 9)), []⟩,
    ⟨(some 80), none, .q (.bin .mul (.v (.int .i64 10)) (.t 79)), []⟩,
    ⟨(some 81), none, .q (.mv (.t 0)), []⟩,
    ⟨(some 82), none, .q (.mv (.t 5)), []⟩,
    ⟨(some 83), none, .q (.idx (.t 81) (.t 82)), []⟩,
    ⟨(some 84), none, .q (.bin .sub (.t 83) (.v (.int .u8 48))), []⟩,
    ⟨(some 85), none, .q (.conv .i64 (.t 84)), []⟩,
    ⟨(some 86), none, .q (.bin .add (.t 80) (.t 85)), []⟩,
    ⟨(some 87), none, .q (.mnx false (.t 86) (.v (.int .i64 3001))), []⟩,
    ⟨(some 9), none, .q (.mv (.t 87)), []⟩]
def c16_35 : ACode := .ops [
    ⟨(some 88), none, .q (.mv (.t 5)), []⟩,
    ⟨(some 89), none, .q (.bin .add (.t 88) (.v (.int .i64 1))), []⟩,
    ⟨(some 5), none, .q (.mv (.t 89)), []⟩]
def c16_36 : ACode := .seq c16_34 c16_35
def c16_37 : ACode := .block 3 c16_36
def c16_38 : ACode := .seq c16_33 c16_37
def c16_39 : ACode := .loop c16_38
def c16_40 : ACode := .block 2 c16_39
def c16_41 : ACode := .ops [
    ⟨(some 90), none, .q (.mv (.t 9)), []⟩,
    ⟨(some 91), none, .q (.bin .lss (.t 90) (.v (.int .i64 1))), []⟩,
    ⟨(some 92), none, .q (.mv (.t 91)), []⟩,
    ⟨(some 93), (some (92, false)), .q (.mv (.t 9)), []⟩,
    ⟨(some 94), (some (92, false)), .q (.bin .gtr (.t 93) (.v (.int .i64 3000))), []⟩,
    ⟨(some 95), none, .q (.pick (.t 92) (.v (.bool true)) (.t 94)), []⟩,
    ⟨(some 96), none, .q (.mv (.t 95)), []⟩,
    ⟨(some 97), (some (96, false)), .q (.mv (.t 0)), []⟩,
    ⟨(some 98), (some (96, false)), .q (.mv (.t 10)), []⟩,
    ⟨(some 99), (some (96, false)), .q (.idx (.t 97) (.t 98)), []⟩,
    ⟨(some 100), (some (96, false)), .q (.bin .eql (.t 99) (.v (.int .u8 48))), []⟩,
    ⟨(some 101), none, .q (.pick (.t 96) (.v (.bool true)) (.t 100)), []⟩,
    ⟨(some 102), none, .q (.mv (.t 101)), []⟩,
    ⟨(some 103), (some (102, false)), .q (.mv (.t 0)), []⟩,
    ⟨(some 104), (some (102, false)), .q (.mv (.t 5)), []⟩,
    ⟨(some 105), (some (102, false)), .e (.call 33 [(.t 103), (.t 104)]), []⟩,
    ⟨(some 106), (some (102, false)), .e (.call 31 [(.t 105)]), []⟩,
    ⟨(some 107), (some (102, false)), .q (.bin .gtr (.t 106) (.v (.int .i64 0))), []⟩,
    ⟨(some 108), none, .q (.pick (.t 102) (.v (.bool true)) (.t 107)), []⟩,
    ⟨(some 109), none, .q (.mv (.t 108)), []⟩,
    ⟨(some 110), (some (109, false)), .q (.mv (.t 0)), []⟩,
    ⟨(some 111), (some (109, false)), .q (.mv (.t 5)), []⟩,
    ⟨(some 112), (some (109, false)), .e (.call 33 [(.t 110), (.t 111)]), []⟩,
    ⟨(some 113), (some (109, false)), .q (.bin .eql (.t 112) (.v (.int .u8 95))), []⟩,
    ⟨(some 114), none, .q (.pick (.t 109) (.v (.bool true)) (.t 113)), []⟩]
def c16_42 : ACode := .ops [
    ⟨(some 115), none, .q (.build [(.int .i64 0), (.int .i64 0), (.bool false), (.bool false)] []), []⟩,
    ⟨none, none, .e (.store 4 (.t 2) (.t 115)), []⟩,
    ⟨(some 3), none, .q (.mv (.v (.int .i64 0))), []⟩]
def c16_43 : ACode := .seq c16_42 .ret
def c16_44 : ACode := .cond (.t 114) c16_43 .skip
def c16_45 : ACode := .seq c16_41 c16_44
def c16_46 : ACode := .ops [
    ⟨(some 116), none, .q (.mv (.t 9)), []⟩,
    ⟨(some 117), none, .q (.bin .sub (.t 116) (.v (.int .i64 1))), []⟩,
    ⟨(some 118), none, .q (.mv (.t 7)), []⟩,
    ⟨(some 119), none, .q (.fa 0 (.t 4)), []⟩,
    ⟨none, none, .e (.store 1 (.t 119) (.t 117)), []⟩,
    ⟨(some 120), none, .q (.fa 1 (.t 4)), []⟩,
    ⟨none, none, .e (.store 1 (.t 120) (.t 118)), []⟩]
def c16_47 : ACode := .ops [
    ⟨(some 121), none, .q (.ld (some 4) (.t 4)), []⟩,
    ⟨(some 122), none, .q (.mv (.t 5)), []⟩,
    ⟨none, none, .e (.store 4 (.t 2) (.t 121)), []⟩,
    ⟨(some 3), none, .q (.mv (.t 122)), []⟩]
def c16_48 : ACode := .seq c16_47 .ret
def c16_49 : ACode := .seq c16_46 c16_48
def c16_50 : ACode := .seq c16_45 c16_49
def c16_51 : ACode := .seq c16_40 c16_50
def c16_52 : ACode := .seq c16_30 c16_51
def c16_53 : ACode := .seq c16_29 c16_52
def c16_54 : ACode := .seq c16_23 c16_53
def c16_55 : ACode := .seq c16_18 c16_54
def c16_56 : ACode := .seq c16_17 c16_55
def c16_57 : ACode := .seq c16_9 c16_56
def c16_58 : ACode := .seq c16_8 c16_57
def c16_59 : ACode := .seq c16_2 c16_58
def c16_60 : ACode := .seq c16_1 c16_59
def c16_61 : ACode := .seq c16_0 c16_60
@[go_sem] theorem c16_0_wp (P : Program) (Q : APost) (a : AFr) (σ : ASt) : c16_0.wp P Q a σ = ACode.wp P (.ops [
    ⟨(some 2), none, .e (.alloc [(.int .i64 0), (.int .i64 0), (.bool false), (.bool false)]), []⟩,
    ⟨(some 3), none, .q (.mv (.v (.int .i64 0))), []⟩]) Q a σ := id rfl
@[go_sem] theorem c16_1_wp (P : Program) (Q : APost) (a : AFr) (σ : ASt) : c16_1.wp P Q a σ = ACode.wp P (.ops [
    ⟨(some 4), none, .e (.alloc [(.int .i64 0), (.int .i64 0), (.bool false), (.bool false)]), []⟩]) Q a σ := id rfl
@[go_sem] theorem c16_2_wp (P : Program) (Q : APost) (a : AFr) (σ : ASt) : c16_2.wp P Q a σ = ACode.wp P (.ops [
    ⟨(some 5), none, .q (.mv (.v (.int .i64 0))), []⟩]) Q a σ := id rfl
@[go_sem] theorem c16_3_wp (P : Program) (Q : APost) (a : AFr) (σ : ASt) : c16_3.wp P Q a σ = ACode.wp P (.ops [
    ⟨(some 11), none, .q (.mv (.t 5)), []⟩,
    ⟨(some 12), none, .q (.mv (.t 0)), []⟩,
    ⟨(some 13), none, .q (.lenS (.t 12)), []⟩,
    ⟨(some 14), none, .q (.bin .lss (.t 11) (.t 13)), []⟩,
    ⟨(some 15), none, .q (.mv (.t 14)), []⟩,
    ⟨(some 16), (some (15, true)), .q (.mv (.t 0)), []⟩,
    ⟨(some 17), (some (15, true)), .q (.mv (.t 5)), []⟩,
    ⟨(some 18), (some (15, true)), .q (.idx (.t 16) (.t 17)), []⟩,
    ⟨(some 19), (some (15, true)), .q (.bin .eql (.t 18) (.v (.int .u8 36))), []⟩,
    ⟨(some 20), none, .q (.pick (.t 15) (.t 19) (.v (.bool false))), []⟩]) Q a σ := id rfl
@[go_sem] theorem c16_4_wp (P : Program) (Q : APost) (a : AFr) (σ : ASt) : c16_4.wp P Q a σ = ACode.wp P (.ops [
    ⟨(some 21), none, .q (.fa 3 (.t 4)), []⟩,
    ⟨none, none, .e (.store 1 (.t 21) (.v (.bool true))), []⟩]) Q a σ := id rfl
@[go_sem] theorem c16_5_wp (P : Program) (Q : APost) (a : AFr) (σ : ASt) : c16_5.wp P Q a σ = ACode.wp P (.ops [
    ⟨(some 22), none, .q (.mv (.t 5)), []⟩,
    ⟨(some 23), none, .q (.bin .add (.t 22) (.v (.int .i64 1))), []⟩,
    ⟨(some 5), none, .q (.mv (.t 23)), []⟩]) Q a σ := id rfl
@[go_sem] theorem c16_6_wp (P : Program) (Q : APost) (a : AFr) (σ : ASt) : c16_6.wp P Q a σ = ACode.wp P (.seq c16_4 c16_5) Q a σ := id rfl
@[go_sem] theorem c16_7_wp (P : Program) (Q : APost) (a : AFr) (σ : ASt) : c16_7.wp P Q a σ = ACode.wp P (.cond (.t 20) c16_6 .skip) Q a σ := id rfl
@[go_sem] theorem c16_8_wp (P : Program) (Q : APost) (a : AFr) (σ : ASt) : c16_8.wp P Q a σ = ACode.wp P (.seq c16_3 c16_7) Q a σ := id rfl
@[go_sem] theorem c16_9_wp (P : Program) (Q : APost) (a : AFr) (σ : ASt) : c16_9.wp P Q a σ = ACode.wp P (.ops [
    ⟨(some 24), none, .q (.mv (.t 5)), []⟩,
    ⟨(some 6), none, .q (.mv (.t 24)), []⟩]) Q a σ := id rfl
@[go_sem] theorem c16_10_wp (P : Program) (Q : APost) (a : AFr) (σ : ASt) : c16_10.wp P Q a σ = ACode.wp P (.ops [
    ⟨(some 25), none, .q (.mv (.t 5)), []⟩,
    ⟨(some 26), none, .q (.mv (.t 0)), []⟩,
    ⟨(some 27), none, .q (.lenS (.t 26)), []⟩,
    ⟨(some 28), none, .q (.bin .lss (.t 25) (.t 27)), []⟩,
    ⟨(some 29), none, .q (.mv (.t 28)), []⟩,
    ⟨(some 30), (some (29, true)), .q (.mv (.t 0)), []⟩,
    ⟨(some 31), (some (29, true)), .q (.mv (.t 5)), []⟩,
    ⟨(some 32), (some (29, true)), .q (.idx (.t 30) (.t 31)), []⟩,
    ⟨(some 33), (some (29, true)), .e (.call 31 [(.t 32)]), []⟩,
    ⟨(some 34), (some (29, true)), .q (.bin .gtr (.t 33) (.v (.int .i64 0))), []⟩,
    ⟨(some 35), none, .q (.pick (.t 29) (.t 34) (.v (.bool false))), []⟩]) Q a σ := id rfl
@[go_sem] theorem c16_11_wp (P : Program) (Q : APost) (a : AFr) (σ : ASt) : c16_11.wp P Q a σ = ACode.wp P (.cond (.t 35) .skip (.exit 0)) Q a σ := id rfl
@[go_sem] theorem c16_12_wp (P : Program) (Q : APost) (a : AFr) (σ : ASt) : c16_12.wp P Q a σ = ACode.wp P (.seq c16_10 c16_11) Q a σ := id rfl
@[go_sem] theorem c16_13_wp (P : Program) (Q : APost) (a : AFr) (σ : ASt) : c16_13.wp P Q a σ = ACode.wp P (.ops [
    ⟨(some 36), none, .q (.mv (.t 5)), []⟩,
    ⟨(some 37), none, .q (.bin .add (.t 36) (.v (.int .i64 1))), []⟩,
    ⟨(some 5), none, .q (.mv (.t 37)), []⟩]) Q a σ := id rfl
@[go_sem] theorem c16_14_wp (P : Program) (Q : APost) (a : AFr) (σ : ASt) : c16_14.wp P Q a σ = ACode.wp P (.block 1 c16_13) Q a σ := id rfl
@[go_sem] theorem c16_15_wp (P : Program) (Q : APost) (a : AFr) (σ : ASt) : c16_15.wp P Q a σ = ACode.wp P (.seq c16_12 c16_14) Q a σ := id rfl
@[go_sem] theorem c16_16_wp (P : Program) (Q : APost) (a : AFr) (σ : ASt) : c16_16.wp P Q a σ = ACode.wp P (.loop c16_15) Q a σ := id rfl
@[go_sem] theorem c16_17_wp (P : Program) (Q : APost) (a : AFr) (σ : ASt) : c16_17.wp P Q a σ = ACode.wp P (.block 0 c16_16) Q a σ := id rfl
@[go_sem] theorem c16_18_wp (P : Program) (Q : APost) (a : AFr) (σ : ASt) : c16_18.wp P Q a σ = ACode.wp P (.ops [
    ⟨(some 39), none, .q (.mv (.t 0)), []⟩,
    ⟨(some 40), none, .q (.mv (.t 6)), []⟩,
    ⟨(some 41), none, .q (.mv (.t 5)), []⟩,
    ⟨(some 42), none, .q (.sls (true, 0) (.t 39) (.t 40) (.t 41)), []⟩,
    ⟨(some 43), none, .e (.call 32 [(.t 42)]), []⟩,
    ⟨(some 38), none, .q (.mv (.t 43)), []⟩,
    ⟨(some 44), none, .q (.ext 0 (.t 38)), []⟩,
    ⟨(some 45), none, .q (.ext 1 (.t 38)), []⟩,
    ⟨(some 7), none, .q (.mv (.t 44)), []⟩,
    ⟨(some 8), none, .q (.mv (.t 45)), []⟩]) Q a σ := id rfl
@[go_sem] theorem c16_19_wp (P : Program) (Q : APost) (a : AFr) (σ : ASt) : c16_19.wp P Q a σ = ACode.wp P (.ops [
    ⟨(some 46), none, .q (.mv (.t 8)), []⟩,
    ⟨(some 47), none, .q (.un .not (.t 46)), []⟩]) Q a σ := id rfl
@[go_sem] theorem c16_20_wp (P : Program) (Q : APost) (a : AFr) (σ : ASt) : c16_20.wp P Q a σ = ACode.wp P (.ops [
    ⟨(some 48), none, .q (.build [(.int .i64 0), (.int .i64 0), (.bool false), (.bool false)] []), []⟩,
    ⟨none, none, .e (.store 4 (.t 2) (.t 48)), []⟩,
    ⟨(some 3), none, .q (.mv (.v (.int .i64 0))), []⟩]) Q a σ := id rfl
@[go_sem] theorem c16_21_wp (P : Program) (Q : APost) (a : AFr) (σ : ASt) : c16_21.wp P Q a σ = ACode.wp P (.seq c16_20 .ret) Q a σ := id rfl
@[go_sem] theorem c16_22_wp (P : Program) (Q : APost) (a : AFr) (σ : ASt) : c16_22.wp P Q a σ = ACode.wp P (.cond (.t 47) c16_21 .skip) Q a σ := id rfl
@[go_sem] theorem c16_23_wp (P : Program) (Q : APost) (a : AFr) (σ : ASt) : c16_23.wp P Q a σ = ACode.wp P (.seq c16_19 c16_22) Q a σ := id rfl
@[go_sem] theorem c16_24_wp (P : Program) (Q : APost) (a : AFr) (σ : ASt) : c16_24.wp P Q a σ = ACode.wp P (.ops [
    ⟨(some 49), none, .q (.mv (.t 5)), []⟩,
    ⟨(some 50), none, .q (.mv (.t 0)), []⟩,
    ⟨(some 51), none, .q (.lenS (.t 50)), []⟩,
    ⟨(some 52), none, .q (.bin .lss (.t 49) (.t 51)), []⟩,
    ⟨(some 53), none, .q (.mv (.t 52)), []⟩,
    ⟨(some 54), (some (53, true)), .q (.mv (.t 0)), []⟩,
    ⟨(some 55), (some (53, true)), .q (.mv (.t 5)), []⟩,
    ⟨(some 56), (some (53, true)), .q (.idx (.t 54) (.t 55)), []⟩,
    ⟨(some 57), (some (53, true)), .q (.bin .eql (.t 56) (.v (.int .u8 36))), []⟩,
    ⟨(some 58), none, .q (.pick (.t 53) (.t 57) (.v (.bool false))), []⟩]) Q a σ := id rfl
@[go_sem] theorem c16_25_wp (P : Program) (Q : APost) (a : AFr) (σ : ASt) : c16_25.wp P Q a σ = ACode.wp P (.ops [
    ⟨(some 59), none, .q (.fa 2 (.t 4)), []⟩,
    ⟨none, none, .e (.store 1 (.t 59) (.v (.bool true))), []⟩]) Q a σ := id rfl
@[go_sem] theorem c16_26_wp (P : Program) (Q : APost) (a : AFr) (σ : ASt) : c16_26.wp P Q a σ = ACode.wp P (.ops [
    ⟨(some 60), none, .q (.mv (.t 5)), []⟩,
    ⟨(some 61), none, .q (.bin .add (.t 60) (.v (.int .i64 1))), []⟩,
    ⟨(some 5), none, .q (.mv (.t 61)), []⟩]) Q a σ := id rfl
@[go_sem] theorem c16_27_wp (P : Program) (Q : APost) (a : AFr) (σ : ASt) : c16_27.wp P Q a σ = ACode.wp P (.seq c16_25 c16_26) Q a σ := id rfl
@[go_sem] theorem c16_28_wp (P : Program) (Q : APost) (a : AFr) (σ : ASt) : c16_28.wp P Q a σ = ACode.wp P (.cond (.t 58) c16_27 .skip) Q a σ := id rfl
@[go_sem] theorem c16_29_wp (P : Program) (Q : APost) (a : AFr) (σ : ASt) : c16_29.wp P Q a σ = ACode.wp P (.seq c16_24 c16_28) Q a σ := id rfl
@[go_sem] theorem c16_30_wp (P : Program) (Q : APost) (a : AFr) (σ : ASt) : c16_30.wp P Q a σ = ACode.wp P (.ops [
    ⟨(some 62), none, .q (.mv (.t 5)), []⟩,
    ⟨(some 9), none, .q (.mv (.v (.int .i64 0))), []⟩,
    ⟨(some 10), none, .q (.mv (.t 62)), []⟩]) Q a σ := id rfl
@[go_sem] theorem c16_31_wp (P : Program) (Q : APost) (a : AFr) (σ : ASt) : c16_31.wp P Q a σ = ACode.wp P (.ops [
    ⟨(some 63), none, .q (.mv (.t 5)), []⟩,
    ⟨(some 64), none, .q (.mv (.t 0)), []⟩,
    ⟨(some 65), none, .q (.lenS (.t 64)), []⟩,
    ⟨(some 66), none, .q (.bin .lss (.t 63) (.t 65)), []⟩,
    ⟨(some 67), none, .q (.mv (.t 66)), []⟩,
    ⟨(some 68), (some (67, true)), .q (.mv (.t 0)), []⟩,
    ⟨(some 69), (some (67, true)), .q (.mv (.t 5)), []⟩,
    ⟨(some 70), (some (67, true)), .q (.idx (.t 68) (.t 69)), []⟩,
    ⟨(some 71), (some (67, true)), .q (.bin .geq (.t 70) (.v (.int .u8 48))), []⟩,
    ⟨(some 72), none, .q (.pick (.t 67) (.t 71) (.v (.bool false))), []⟩,
    ⟨(some 73), none, .q (.mv (.t 72)), []⟩,
    ⟨(some 74), (some (73, true)), .q (.mv (.t 0)), []⟩,
    ⟨(some 75), (some (73, true)), .q (.mv (.t 5)), []⟩,
    ⟨(some 76), (some (73, true)), .q (.idx (.t 74) (.t 75)), []⟩,
    ⟨(some 77), (some (73, true)), .q (.bin .leq (.t 76) (.v (.int .u8 57))), []⟩,
    ⟨(some 78), none, .q (.pick (.t 73) (.t 77) (.v (.bool false))), []⟩]) Q a σ := id rfl
@[go_sem] theorem c16_32_wp (P : Program) (Q : APost) (a : AFr) (σ : ASt) : c16_32.wp P Q a σ = ACode.wp P (.cond (.t 78) .skip (.exit 2)) Q a σ := id rfl
@[go_sem] theorem c16_33_wp (P : Program) (Q : APost) (a : AFr) (σ : ASt) : c16_33.wp P Q a σ = ACode.wp P (.seq c16_31 c16_32) Q a σ := id rfl
@[go_sem] theorem c16_34_wp (P : Program) (Q : APost) (a : AFr) (σ : ASt) : c16_34.wp P Q a σ = ACode.wp P (.ops [
    ⟨(some 79), none, .q (.mv (.t 9)), []⟩,
    ⟨(some 80), none, .q (.bin .mul (.v (.int .i64 10)) (.t 79)), []⟩,
    ⟨(some 81), none, .q (.mv (.t 0)), []⟩,
    ⟨(some 82), none, .q (.mv (.t 5)), []⟩,
    ⟨(some 83), none, .q (.idx (.t 81) (.t 82)), []⟩,
    ⟨(some 84), none, .q (.bin .sub (.t 83) (.v (.int .u8 48))), []⟩,
    ⟨(some 85), none, .q (.conv .i64 (.t 84)), []⟩,
    ⟨(some 86), none, .q (.bin .add (.t 80) (.t 85)), []⟩,
    ⟨(some 87), none, .q (.mnx false (.t 86) (.v (.int .i64 3001))), []⟩,
    ⟨(some 9), none, .q (.mv (.t 87)), []⟩]) Q a σ := id rfl
@[go_sem] theorem c16_35_wp (P : Program) (Q : APost) (a : AFr) (σ : ASt) : c16_35.wp P Q a σ = ACode.wp P (.ops [
    ⟨(some 88), none, .q (.mv (.t 5)), []⟩,
    ⟨(some 89), none, .q (.bin .add (.t 88) (.v (.int .i64 1))), []⟩,
    ⟨(some 5), none, .q (.mv (.t 89)), []⟩]) Q a σ := id rfl
@[go_sem] theorem c16_36_wp (P : Program) (Q : APost) (a : AFr) (σ : ASt) : c16_36.wp P Q a σ = ACode.wp P (.seq c16_34 c16_35) Q a σ := id rfl
@[go_sem] theorem c16_37_wp (P : Program) (Q : APost) (a : AFr) (σ : ASt) : c16_37.wp P Q a σ = ACode.wp P (.block 3 c16_36) Q a σ := id rfl
@[go_sem] theorem c16_38_wp (P : Program) (Q : APost) (a : AFr) (σ : ASt) : c16_38.wp P Q a σ = ACode.wp P (.seq c16_33 c16_37) Q a σ := id rfl
@[go_sem] theorem c16_39_wp (P : Program) (Q : APost) (a : AFr) (σ : ASt) : c16_39.wp P Q a σ = ACode.wp P (.loop c16_38) Q a σ := id rfl
@[go_sem] theorem c16_40_wp (P : Program) (Q : APost) (a : AFr) (σ : ASt) : c16_40.wp P Q a σ = ACode.wp P (.block 2 c16_39) Q a σ := id rfl
@[go_sem] theorem c16_41_wp (P : Program) (Q : APost) (a : AFr) (σ : ASt) : c16_41.wp P Q a σ = ACode.wp P (.ops [
    ⟨(some 90), none, .q (.mv (.t 9)), []⟩,
    ⟨(some 91), none, .q (.bin .lss (.t 90) (.v (.int .i64 1))), []⟩,
    ⟨(some 92), none, .q (.mv (.t 91)), []⟩,
    ⟨(some 93), (some (92, false)), .q (.mv (.t 9)), []⟩,
    ⟨(some 94), (some (92, false)), .q (.bin .gtr (.t 93) (.v (.int .i64 3000))), []⟩,
    ⟨(some 95), none, .q (.pick (.t 92) (.v (.bool true)) (.t 94)), []⟩,
    ⟨(some 96), none, .q (.mv (.t 95)), []⟩,
    ⟨(some 97), (some (96, false)), .q (.mv (.t 0)), []⟩,
    ⟨(some 98), (some (96, false)), .q (.mv (.t 10)), []⟩,
    ⟨(some 99), (some (96, false)), .q (.idx (.t 97) (.t 98)), []⟩,
    ⟨(some 100), (some (96, false)), .q (.bin .eql (.t 99) (.v (.int .u8 48))), []⟩,
    ⟨(some 101), none, .q (.pick (.t 96) (.v (.bool true)) (.t 100)), []⟩,
    ⟨(some 102), none, .q (.mv (.t 101)), []⟩,
    ⟨(some 103), (some (102, false)), .q (.mv (.t 0)), []⟩,
    ⟨(some 104), (some (102, false)), .q (.mv (.t 5)), []⟩,
    ⟨(some 105), (some (102, false)), .e (.call 33 [(.t 103), (.t 104)]), []⟩,
    ⟨(some 106), (some (102, false)), .e (.call 31 [(.t 105)]), []⟩,
    ⟨(some 107), (some (102, false)), .q (.bin .gtr (.t 106) (.v (.int .i64 0))), []⟩,
    ⟨(some 108), none, .q (.pick (.t 102) (.v (.bool true)) (.t 107)), []⟩,
    ⟨(some 109), none, .q (.mv (.t 108)), []⟩,
    ⟨(some 110), (some (109, false)), .q (.mv (.t 0)), []⟩,
    ⟨(some 111), (some (109, false)), .q (.mv (.t 5)), []⟩,
    ⟨(some 112), (some (109, false)), .e (.call 33 [(.t 110), (.t 111)]), []⟩,
    ⟨(some 113), (some (109, false)), .q (.bin .eql (.t 112) (.v (.int .u8 95))), []⟩,
    ⟨(some 114), none, .q (.pick (.t 109) (.v (.bool true)) (.t 113)), []⟩]) Q a σ := id rfl
@[go_sem] theorem c16_42_wp (P : Program) (Q : APost) (a : AFr) (σ : ASt) : c16_42.wp P Q a σ = ACode.wp P (.ops [
    ⟨(some 115), none, .q (.build [(.int .i64 0), (.int .i64 0), (.bool false), (.bool false)] []), []⟩,
    ⟨none, none, .e (.store 4 (.t 2) (.t 115)), []⟩,
    ⟨(some 3), none, .q (.mv (.v (.int .i64 0))), []⟩]) Q a σ := id rfl
@[go_sem] theorem c16_43_wp (P : Program) (Q : APost) (a : AFr) (σ : ASt) : c16_43.wp P Q a σ = ACode.wp P (.seq c16_42 .ret) Q a σ := id rfl
@[go_sem] theorem c16_44_wp (P : Program) (Q : APost) (a : AFr) (σ : ASt) : c16_44.wp P Q a σ = ACode.wp P (.cond (.t 114) c16_43 .skip) Q a σ := id rfl
@[go_sem] theorem c16_45_wp (P : Program) (Q : APost) (a : AFr) (σ : ASt) : c16_45.wp P Q a σ = ACode.wp P (.seq c16_41 c16_44) Q a σ := id rfl
@[go_sem] theorem c16_46_wp (P : Program) (Q : APost) (a : AFr) (σ : ASt) : c16_46.wp P Q a σ = ACode.wp P (.ops [
    ⟨(some 116), none, .q (.mv (.t 9)), []⟩,
    ⟨(some 117), none, .q (.bin .sub (.t 116) (.v (.int .i64 1))), []⟩,
    ⟨(some 118), none, .q (.mv (.t 7)), []⟩,
    ⟨(some 119), none, .q (.fa 0 (.t 4)), []⟩,
    ⟨none, none, .e (.store 1 (.t 119) (.t 117)), []⟩,
    ⟨(some 120), none, .q (.fa 1 (.t 4)), []⟩,
    ⟨none, none, .e (.store 1 (.t 120) (.t 118)), []⟩]) Q a σ := id rfl
@[go_sem] theorem c16_47_wp (P : Program) (Q : APost) (a : AFr) (σ : ASt) : c16_47.wp P Q a σ = ACode.wp P (.ops [
    ⟨(some 121), none, .q (.ld (some 4) (.t 4)), []⟩,
    ⟨(some 122), none, .q (.mv (.t 5)), []⟩,
    ⟨none, none, .e (.store 4 (.t 2) (.t 121)), []⟩,
    ⟨(some 3), none, .q (.mv (.t 122)), []⟩]) Q a σ := id rfl
@[go_sem] theorem c16_48_wp (P : Program) (Q : APost) (a : AFr) (σ : ASt) : c16_48.wp P Q a σ = ACode.wp P (.seq c16_47 .ret) Q a σ := id rfl
@[go_sem] theorem c16_49_wp (P : Program) (Q : APost) (a : AFr) (σ : ASt) : c16_49.wp P Q a σ = ACode.wp P (.seq c16_46 c16_48) Q a σ := id rfl
@[go_sem] theorem c16_50_wp (P : Program) (Q : APost) (a : AFr) (σ : ASt) : c16_50.wp P Q a σ = ACode.wp P (.seq c16_45 c16_49) Q a σ := id rfl
@[go_sem] theorem c16_51_wp (P : Program) (Q : APost) (a : AFr) (σ : ASt) : c16_51.wp P Q a σ = ACode.wp P (.seq c16_40 c16_50) Q a σ := id rfl
@[go_sem] theorem c16_52_wp (P : Program) (Q : APost) (a : AFr) (σ : ASt) : c16_52.wp P Q a σ = ACode.wp P (.seq c16_30 c16_51) Q a σ := id rfl
@[go_sem] theorem c16_53_wp (P : Program) (Q : APost) (a : AFr) (σ : ASt) : c16_53.wp P Q a σ = ACode.wp P (.seq c16_29 c16_52) Q a σ := id rfl
@[go_sem] theorem c16_54_wp (P : Program) (Q : APost) (a : AFr) (σ : ASt) : c16_54.wp P Q a σ = ACode.wp P (.seq c16_23 c16_53) Q a σ := id rfl
@[go_sem] theorem c16_55_wp (P : Program) (Q : APost) (a : AFr) (σ : ASt) : c16_55.wp P Q a σ = ACode.wp P (.seq c16_18 c16_54) Q a σ := id rfl
@[go_sem] theorem c16_56_wp (P : Program) (Q : APost) (a : AFr) (σ : ASt) : c16_56.wp P Q a σ = ACode.wp P (.seq c16_17 c16_55) Q a σ := id rfl
@[go_sem] theorem c16_57_wp (P : Program) (Q : APost) (a : AFr) (σ : ASt) : c16_57.wp P Q a σ = ACode.wp P (.seq c16_9 c16_56) Q a σ := id rfl
@[go_sem] theorem c16_58_wp (P : Program) (Q : APost) (a : AFr) (σ : ASt) : c16_58.wp P Q a σ = ACode.wp P (.seq c16_8 c16_57) Q a σ := id rfl
@[go_sem] theorem c16_59_wp (P : Program) (Q : APost) (a : AFr) (σ : ASt) : c16_59.wp P Q a σ = ACode.wp P (.seq c16_2 c16_58) Q a σ := id rfl
@[go_sem] theorem c16_60_wp (P : Program) (Q : APost) (a : AFr) (σ : ASt) : c16_60.wp P Q a σ = ACode.wp P (.seq c16_1 c16_59) Q a σ := id rfl
@[go_sem] theorem c16_61_wp (P : Program) (Q : APost) (a : AFr) (σ : ASt) : c16_61.wp P Q a σ = ACode.wp P (.seq c16_0 c16_60) Q a σ := id rfl
def c16 : AFn := ⟨123, [.c 2 (some 4), .t 3], c16_61⟩
set_option maxRecDepth 100000 in
theorem c16_ok : compF Tryd.prog Tryd.f16 = some c16 := by kernel_rfl
theorem a16 {args : List AV} {σ : ASt} {R : AV → ASt → Prop} (hl : args.length ≤ 123) (h : c16_61.wp Tryd.prog (RetQ [.c 2 (some 4), .t 3] R) (init args) σ) : ACalls Tryd.prog 16 args σ R := acalls_of Tryd.func16 c16_ok hl h

/-! 19: (tabular/addr.Ref).Moved -/
def c19_0 : ACode := .ops [
    ⟨(some 3), none, .e (.box (.t 0)), []⟩,
    ⟨(some 6), none, .e (.alloc [(.int .i64 0), (.int .i64 0), (.bool false), (.bool false)]), []⟩,
    ⟨(some 7), none, .q (.mv (.v (.bool false))), []⟩]
def c19_1 : ACode := .ops [
    ⟨(some 8), none, .q (.mv (.t 1)), []⟩,
    ⟨(some 9), none, .q (.bin .leq (.t 8) (.v (.int .i64 (-3000)))), []⟩,
    ⟨(some 10), none, .q (.mv (.t 9)), []⟩,
    ⟨(some 11), (some (10, false)), .q (.mv (.t 1)), []⟩,
    ⟨(some 12), (some (10, false)), .q (.bin .geq (.t 11) (.v (.int .i64 3000))), []⟩,
    ⟨(some 13), none, .q (.pick (.t 10) (.v (.bool true)) (.t 12)), []⟩,
    ⟨(some 14), none, .q (.mv (.t 13)), []⟩,
    ⟨(some 15), (some (14, false)), .q (.mv (.t 2)), []⟩,
    ⟨(some 16), (some (14, false)), .q (.bin .leq (.t 15) (.v (.int .i64 (-700)))), []⟩,
    ⟨(some 17), none, .q (.pick (.t 14) (.v (.bool true)) (.t 16)), []⟩,
    ⟨(some 18), none, .q (.mv (.t 17)), []⟩,
    ⟨(some 19), (some (18, false)), .q (.mv (.t 2)), []⟩,
    ⟨(some 20), (some (18, false)), .q (.bin .geq (.t 19) (.v (.int .i64 700))), []⟩,
    ⟨(some 21), none, .q (.pick (.t 18) (.v (.bool true)) (.t 20)), []⟩]
def c19_2 : ACode := .ops [
    ⟨(some 22), none, .q (.fa 2 (.t 3)), []⟩,
    ⟨(some 23), none, .q (.ld none (.t 22)), []⟩,
    ⟨(some 24), none, .q (.un .not (.t 23)), []⟩,
    ⟨(some 25), none, .q (.mv (.t 24)), []⟩,
    ⟨(some 26), (some (25, true)), .q (.mv (.t 1)), []⟩,
    ⟨(some 27), (some (25, true)), .q (.bin .leq (.t 26) (.v (.int .i64 (-3000)))), []⟩,
    ⟨(some 28), (some (25, true)), .q (.mv (.t 27)), []⟩,
    ⟨(some 29), (some (28, false)), .q (.mv (.t 1)), []⟩,
    ⟨(some 30), (some (28, false)), .q (.bin .geq (.t 29) (.v (.int .i64 3000))), []⟩,
    ⟨(some 31), (some (25, true)), .q (.pick (.t 28) (.v (.bool true)) (.t 30)), []⟩,
    ⟨(some 32), none, .q (.pick (.t 25) (.t 31) (.v (.bool false))), []⟩,
    ⟨(some 33), none, .q (.mv (.t 32)), []⟩,
    ⟨(some 34), (some (33, false)), .q (.fa 3 (.t 3)), []⟩,
    ⟨(some 35), (some (33, false)), .q (.ld none (.t 34)), []⟩,
    ⟨(some 36), (some (33, false)), .q (.un .not (.t 35)), []⟩,
    ⟨(some 37), (some (33, false)), .q (.mv (.t 36)), []⟩,
    ⟨(some 38), (some (37, true)), .q (.mv (.t 2)), []⟩,
    ⟨(some 39), (some (37, true)), .q (.bin .leq (.t 38) (.v (.int .i64 (-700)))), []⟩,
    ⟨(some 40), (some (37, true)), .q (.mv (.t 39)), []⟩,
    ⟨(some 41), (some (40, false)), .q (.mv (.t 2)), []⟩,
    ⟨(some 42), (some (40, false)), .q (.bin .geq (.t 41) (.v (.int .i64 700))), []⟩,
    ⟨(some 43), (some (37, true)), .q (.pick (.t 40) (.v (.bool true)) (.t 42)), []⟩,
    ⟨(some 44), (some (33, false)), .q (.pick (.t 37) (.t 43) (.v (.bool false))), []⟩,
    ⟨(some 45), none, .q (.pick (.t 33) (.v (.bool true)) (.t 44)), []⟩]
def c19_3 : ACode := .ops [
    ⟨(some 46), none, .q (.build [(.int .i64 0), (.int .i64 0), (.bool false), (.bool false)] []), []⟩,
    ⟨none, none, .e (.store 4 (.t 6) (.t 46)), []⟩,
    ⟨(some 7), none, .q (.mv (.v (.bool false))), []⟩]
def c19_4 : ACode := .seq c19_3 .ret
def c19_5 : ACode := .cond (.t 45) c19_4 .skip
def c19_6 : ACode := .seq c19_2 c19_5
def c19_7 : ACode := .cond (.t 21) c19_6 .skip
def c19_8 : ACode := .seq c19_1 c19_7
def c19_9 : ACode := .ops [
    ⟨(some 47), none, .q (.fa 2 (.t 3)), []⟩,
    ⟨(some 48), none, .q (.ld none (.t 47)), []⟩,
    ⟨(some 49), none, .q (.un .not (.t 48)), []⟩]
def c19_10 : ACode := .ops [
    ⟨(some 50), none, .q (.fa 0 (.t 3)), []⟩,
    ⟨(some 51), none, .q (.ld none (.t 50)), []⟩,
    ⟨(some 52), none, .q (.mv (.t 1)), []⟩,
    ⟨(some 53), none, .q (.bin .add (.t 51) (.t 52)), []⟩,
    ⟨(some 54), none, .q (.fa 0 (.t 3)), []⟩,
    ⟨none, none, .e (.store 1 (.t 54) (.t 53)), []⟩]
def c19_11 : ACode := .cond (.t 49) c19_10 .skip
def c19_12 : ACode := .seq c19_9 c19_11
def c19_13 : ACode := .ops [
    ⟨(some 55), none, .q (.fa 3 (.t 3)), []⟩,
    ⟨(some 56), none, .q (.ld none (.t 55)), []⟩,
    ⟨(some 57), none, .q (.un .not (.t 56)), []⟩]
def c19_14 : ACode := .ops [
    ⟨(some 58), none, .q (.fa 1 (.t 3)), []⟩,
    ⟨(some 59), none, .q (.ld none (.t 58)), []⟩,
    ⟨(some 60), none, .q (.mv (.t 2)), []⟩,
    ⟨(some 61), none, .q (.bin .add (.t 59) (.t 60)), []⟩,
    ⟨(some 62), none, .q (.fa 1 (.t 3)), []⟩,
    ⟨none, none, .e (.store 1 (.t 62) (.t 61)), []⟩]
def c19_15 : ACode := .cond (.t 57) c19_14 .skip
def c19_16 : ACode := .seq c19_13 c19_15
def c19_17 : ACode := .ops [
    ⟨(some 63), none, .q (.ld (some 4) (.t 3)), []⟩,
    ⟨(some 64), none, .e (.call 9 [(.t 63)]), []⟩,
    ⟨(some 65), none, .q (.un .not (.t 64)), []⟩]
def c19_18 : ACode := .ops [
    ⟨(some 66), none, .q (.build [(.int .i64 0), (.int .i64 0), (.bool false), (.bool false)] []), []⟩,
    ⟨none, none, .e (.store 4 (.t 6) (.t 66)), []⟩,
    ⟨(some 7), none, .q (.mv (.v (.bool false))), []⟩]
def c19_19 : ACode := .seq c19_18 .ret
def c19_20 : ACode := .cond (.t 65) c19_19 .skip
def c19_21 : ACode := .seq c19_17 c19_20
def c19_22 : ACode := .ops [
    ⟨(some 67), none, .q (.ld (some 4) (.t 3)), []⟩,
    ⟨none, none, .e (.store 4 (.t 6) (.t 67)), []⟩,
    ⟨(some 7), none, .q (.mv (.v (.bool true))), []⟩]
def c19_23 : ACode := .seq c19_22 .ret
def c19_24 : ACode := .seq c19_21 c19_23
def c19_25 : ACode := .seq c19_16 c19_24
def c19_26 : ACode := .seq c19_12 c19_25
def c19_27 : ACode := .seq c19_8 c19_26
def c19_28 : ACode := .seq c19_0 c19_27
@[go_sem] theorem c19_0_wp (P : Program) (Q : APost) (a : AFr) (σ : ASt) : c19_0.wp P Q a σ = ACode.wp P (.ops [
    ⟨(some 3), none, .e (.box (.t 0)), []⟩,
    ⟨(some 6), none, .e (.alloc [(.int .i64 0), (.int .i64 0), (.bool false), (.bool false)]), []⟩,
    ⟨(some 7), none, .q (.mv (.v (.bool false))), []⟩]) Q a σ := id rfl
@[go_sem] theorem c19_1_wp (P : Program) (Q : APost) (a : AFr) (σ : ASt) : c19_1.wp P Q a σ = ACode.wp P (.ops [
    ⟨(some 8), none, .q (.mv (.t 1)), []⟩,
    ⟨(some 9), none, .q (.bin .leq (.t 8) (.v (.int .i64 (-3000)))), []⟩,
    ⟨(some 10), none, .q (.mv (.t 9)), []⟩,
    ⟨(some 11), (some (10, false)), .q (.mv (.t 1)), []⟩,
    ⟨(some 12), (some (10, false)), .q (.bin .geq (.t 11) (.v (.int .i64 3000))), []⟩,
    ⟨(some 13), none, .q (.pick (.t 10) (.v (.bool true)) (.t 12)), []⟩,
    ⟨(some 14), none, .q (.mv (.t 13)), []⟩,
    ⟨(some 15), (some (14, false)), .q (.mv (.t 2)), []⟩,
    ⟨(some 16), (some (14, false)), .q (.bin .leq (.t 15) (.v (.int .i64 (-700)))), []⟩,
    ⟨(some 17), none, .q (.pick (.t 14) (.v (.bool true)) (.t 16)), []⟩,
    ⟨(some 18), none, .q (.mv (.t 17)), []⟩,
    ⟨(some 19), (some (18, false)), .q (.mv (.t 2)), []⟩,
    ⟨(some 20), (some (18, false)), .q (.bin .geq (.t 19) (.v (.int .i64 700))), []⟩,
    ⟨(some 21), none, .q (.pick (.t 18) (.v (.bool true)) (.t 20)), []⟩]) Q a σ := id rfl
@[go_sem] theorem c19_2_wp (P : Program) (Q : APost) (a : AFr) (σ : ASt) : c19_2.wp P Q a σ = ACode.wp P (.ops [
    ⟨(some 22), none, .q (.fa 2 (.t 3)), []⟩,
    ⟨(some 23), none, .q (.ld none (.t 22)), []⟩,
    ⟨(some 24), none, .q (.un .not (.t 23)), []⟩,
    ⟨(some 25), none, .q (.mv (.t 24)), []⟩,
    ⟨(some 26), (some (25, true)), .q (.mv (.t 1)), []⟩,
    ⟨(some 27), (some (25, true)), .q (.bin .leq (.t 26) (.v (.int .i64 (-3000)))), []⟩,
    ⟨(some 28), (some (25, true)), .q (.mv (.t 27)), []⟩,
    ⟨(some 29), (some (28, false)), .q (.mv (.t 1)), []⟩,
    ⟨(some 30), (some (28, false)), .q (.bin .geq (.t 29) (.v (.int .i64 3000))), []⟩,
    ⟨(some 31), (some (25, true)), .q (.pick (.t 28) (.v (.bool true)) (.t 30)), []⟩,
    ⟨(some 32), none, .q (.pick (.t 25) (.t 31) (.v (.bool false))), []⟩,
    ⟨(some 33), none, .q (.mv (.t 32)), []⟩,
    ⟨(some 34), (some (33, false)), .q (.fa 3 (.t 3)), []⟩,
    ⟨(some 35), (some (33, false)), .q (.ld none (.t 34)), []⟩,
    ⟨(some 36), (some (33, false)), .q (.un .not (.t 35)), []⟩,
    ⟨(some 37), (some (33, false)), .q (.mv (.t 36)), []⟩,
    ⟨(some 38), (some (37, true)), .q (.mv (.t 2)), []⟩,
    ⟨(some 39), (some (37, true)), .q (.bin .leq (.t 38) (.v (.int .i64 (-700)))), []⟩,
    ⟨(some 40), (some (37, true)), .q (.mv (.t 39)), []⟩,
    ⟨(some 41), (some (40, false)), .q (.mv (.t 2)), []⟩,
    ⟨(some 42), (some (40, false)), .q (.bin .geq (.t 41) (.v (.int .i64 700))), []⟩,
    ⟨(some 43), (some (37, true)), .q (.pick (.t 40) (.v (.bool true)) (.t 42)), []⟩,
    ⟨(some 44), (some (33, false)), .q (.pick (.t 37) (.t 43) (.v (.bool false))), []⟩,
    ⟨(some 45), none, .q (.pick (.t 33) (.v (.bool true)) (.t 44)), []⟩]) Q a σ := id rfl
@[go_sem] theorem c19_3_wp (P : Program) (Q : APost) (a : AFr) (σ : ASt) : c19_3.wp P Q a σ = ACode.wp P (.ops [
    ⟨(some 46), none, .q (.build [(.int .i64 0), (.int .i64 0), (.bool false), (.bool false)] []), []⟩,
    ⟨none, none, .e (.store 4 (.t 6) (.t 46)), []⟩,
    ⟨(some 7), none, .q (.mv (.v (.bool false))), []⟩]) Q a σ := id rfl
@[go_sem] theorem c19_4_wp (P : Program) (Q : APost) (a : AFr) (σ : ASt) : c19_4.wp P Q a σ = ACode.wp P (.seq c19_3 .ret) Q a σ := id rfl
@[go_sem] theorem c19_5_wp (P : Program) (Q : APost) (a : AFr) (σ : ASt) : c19_5.wp P Q a σ = ACode.wp P (.cond (.t 45) c19_4 .skip) Q a σ := id rfl
@[go_sem] theorem c19_6_wp (P : Program) (Q : APost) (a : AFr) (σ : ASt) : c19_6.wp P Q a σ = ACode.wp P (.seq c19_2 c19_5) Q a σ := id rfl
@[go_sem] theorem c19_7_wp (P : Program) (Q : APost) (a : AFr) (σ : ASt) : c19_7.wp P Q a σ = ACode.wp P (.cond (.t 21) c19_6 .skip) Q a σ := id rfl
@[go_sem] theorem c19_8_wp (P : Program) (Q : APost) (a : AFr) (σ : ASt) : c19_8.wp P Q a σ = ACode.wp P (.seq c19_1 c19_7) Q a σ := id rfl
@[go_sem] theorem c19_9_wp (P : Program) (Q : APost) (a : AFr) (σ : ASt) : c19_9.wp P Q a σ = ACode.wp P (.ops [
    ⟨(some 47), none, .q (.fa 2 (.t 3)), []⟩,
    ⟨(some 48), none, .q (.ld none (.t 47)), []⟩,
    ⟨(some 49), none, .q (.un .not (.t 48)), []⟩]) Q a σ := id rfl
@[go_sem] theorem c19_10_wp (P : Program) (Q : APost) (a : AFr) (σ : ASt) : c19_10.wp P Q a σ = ACode.wp P (.ops [
    ⟨(some 50), none, .q (.fa 0 (.t 3)), []⟩,
    ⟨(some 51), none, .q (.ld none (.t 50)), []⟩,
    ⟨(some 52), none, .q (.mv (.t 1)), []⟩,
    ⟨(some 53), none, .q (.bin .add (.t 51) (.t 52)), []⟩,
    ⟨(some 54), none, .q (.fa 0 (.t 3)), []⟩,
    ⟨none, none, .e (.store 1 (.t 54) (.t 53)), []⟩]) Q a σ := id rfl
@[go_sem] theorem c19_11_wp (P : Program) (Q : APost) (a : AFr) (σ : ASt) : c19_11.wp P Q a σ = ACode.wp P (.cond (.t 49) c19_10 .skip) Q a σ := id rfl
@[go_sem] theorem c19_12_wp (P : Program) (Q : APost) (a : AFr) (σ : ASt) : c19_12.wp P Q a σ = ACode.wp P (.seq c19_9 c19_11) Q a σ := id rfl
@[go_sem] theorem c19_13_wp (P : Program) (Q : APost) (a : AFr) (σ : ASt) : c19_13.wp P Q a σ = ACode.wp P (.ops [
    ⟨(some 55), none, .q (.fa 3 (.t 3)), []⟩,
    ⟨(some 56), none, .q (.ld none (.t 55)), []⟩,
    ⟨(some 57), none, .q (.un .not (.t 56)), []⟩]) Q a σ := id rfl
@[go_sem] theorem c19_14_wp (P : Program) (Q : APost) (a : AFr) (σ : ASt) : c19_14.wp P Q a σ = ACode.wp P (.ops [
    ⟨(some 58), none, .q (.fa 1 (.t 3)), []⟩,
    ⟨(some 59), none, .q (.ld none (.t 58)), []⟩,
    ⟨(some 60), none, .q (.mv (.t 2)), []⟩,
    ⟨(some 61), none, .q (.bin .add (.t 59) (.t 60)), []⟩,
    ⟨(some 62), none, .q (.fa 1 (.t 3)), []⟩,
    ⟨none, none, .e (.store 1 (.t 62) (.t 61)), []⟩]) Q a σ := id rfl
@[go_sem] theorem c19_15_wp (P : Program) (Q : APost) (a : AFr) (σ : ASt) : c19_15.wp P Q a σ = ACode.wp P (.cond (.t 57) c19_14 .skip) Q a σ := id rfl
@[go_sem] theorem c19_16_wp (P : Program) (Q : APost) (a : AFr) (σ : ASt) : c19_16.wp P Q a σ = ACode.wp P (.seq c19_13 c19_15) Q a σ := id rfl
@[go_sem] theorem c19_17_wp (P : Program) (Q : APost) (a : AFr) (σ : ASt) : c19_17.wp P Q a σ = ACode.wp P (.ops [
    ⟨(some 63), none, .q (.ld (some 4) (.t 3)), []⟩,
    ⟨(some 64), none, .e (.call 9 [(.t 63)]), []⟩,
    ⟨(some 65), none, .q (.un .not (.t 64)), []⟩]) Q a σ := id rfl
@[go_sem] theorem c19_18_wp (P : Program) (Q : APost) (a : AFr) (σ : ASt) : c19_18.wp P Q a σ = ACode.wp P (.ops [
    ⟨(some 66), none, .q (.build [(.int .i64 0), (.int .i64 0), (.bool false), (.bool false)] []), []⟩,
    ⟨none, none, .e (.store 4 (.t 6) (.t 66)), []⟩,
    ⟨(some 7), none, .q (.mv (.v (.bool false))), []⟩]) Q a σ := id rfl
@[go_sem] theorem c19_19_wp (P : Program) (Q : APost) (a : AFr) (σ : ASt) : c19_19.wp P Q a σ = ACode.wp P (.seq c19_18 .ret) Q a σ := id rfl
@[go_sem] theorem c19_20_wp (P : Program) (Q : APost) (a : AFr) (σ : ASt) : c19_20.wp P Q a σ = ACode.wp P (.cond (.t 65) c19_19 .skip) Q a σ := id rfl
@[go_sem] theorem c19_21_wp (P : Program) (Q : APost) (a : AFr) (σ : ASt) : c19_21.wp P Q a σ = ACode.wp P (.seq c19_17 c19_20) Q a σ := id rfl
@[go_sem] theorem c19_22_wp (P : Program) (Q : APost) (a : AFr) (σ : ASt) : c19_22.wp P Q a σ = ACode.wp P (.ops [
    ⟨(some 67), none, .q (.ld (some 4) (.t 3)), []⟩,
    ⟨none, none, .e (.store 4 (.t 6) (.t 67)), []⟩,
    ⟨(some 7), none, .q (.mv (.v (.bool true))), []⟩]) Q a σ := id rfl
@[go_sem] theorem c19_23_wp (P : Program) (Q : APost) (a : AFr) (σ : ASt) : c19_23.wp P Q a σ = ACode.wp P (.seq c19_22 .ret) Q a σ := id rfl
@[go_sem] theorem c19_24_wp (P : Program) (Q : APost) (a : AFr) (σ : ASt) : c19_24.wp P Q a σ = ACode.wp P (.seq c19_21 c19_23) Q a σ := id rfl
@[go_sem] theorem c19_25_wp (P : Program) (Q : APost) (a : AFr) (σ : ASt) : c19_25.wp P Q a σ = ACode.wp P (.seq c19_16 c19_24) Q a σ := id rfl
@[go_sem] theorem c19_26_wp (P : Program) (Q : APost) (a : AFr) (σ : ASt) : c19_26.wp P Q a σ = ACode.wp P (.seq c19_12 c19_25) Q a σ := id rfl
@[go_sem] theorem c19_27_wp (P : Program) (Q : APost) (a : AFr) (σ : ASt) : c19_27.wp P Q a σ = ACode.wp P (.seq c19_8 c19_26) Q a σ := id rfl
@[go_sem] theorem c19_28_wp (P : Program) (Q : APost) (a : AFr) (σ : ASt) : c19_28.wp P Q a σ = ACode.wp P (.seq c19_0 c19_27) Q a σ := id rfl
def c19 : AFn := ⟨68, [.c 6 (some 4), .t 7], c19_28⟩
set_option maxRecDepth 100000 in
theorem c19_ok : compF Tryd.prog Tryd.f19 = some c19 := by kernel_rfl
theorem a19 {args : List AV} {σ : ASt} {R : AV → ASt → Prop} (hl : args.length ≤ 68) (h : c19_28.wp Tryd.prog (RetQ [.c 6 (some 4), .t 7] R) (init args) σ) : ACalls Tryd.prog 19 args σ R := acalls_of Tryd.func19 c19_ok hl h

/-! 22: (tabular/addr.Ref).Rect -/
def c22_0 : ACode := .ops [
    ⟨(some 1), none, .e (.box (.t 0)), []⟩,
    ⟨(some 2), none, .e (.alloc [(.int .i64 0), (.int .i64 0), (.int .i64 0), (.int .i64 0)]), []⟩]
def c22_1 : ACode := .ops [
    ⟨(some 3), none, .q (.fa 0 (.t 1)), []⟩,
    ⟨(some 4), none, .q (.ld none (.t 3)), []⟩,
    ⟨(some 5), none, .q (.fa 1 (.t 1)), []⟩,
    ⟨(some 6), none, .q (.ld none (.t 5)), []⟩,
    ⟨(some 7), none, .q (.build [(.int .i64 0), (.int .i64 0), (.int .i64 0), (.int .i64 0)] [(0, 1, (.t 4)), (1, 1, (.t 6)), (2, 1, (.v (.int .i64 1))), (3, 1, (.v (.int .i64 1)))]), []⟩,
    ⟨none, none, .e (.store 4 (.t 2) (.t 7)), []⟩]
def c22_2 : ACode := .seq c22_1 .ret
def c22_3 : ACode := .seq c22_0 c22_2
@[go_sem] theorem c22_0_wp (P : Program) (Q : APost) (a : AFr) (σ : ASt) : c22_0.wp P Q a σ = ACode.wp P (.ops [
    ⟨(some 1), none, .e (.box (.t 0)), []⟩,
    ⟨(some 2), none, .e (.alloc [(.int .i64 0), (.int .i64 0), (.int .i64 0), (.int .i64 0)]), []⟩]) Q a σ := id rfl
@[go_sem] theorem c22_1_wp (P : Program) (Q : APost) (a : AFr) (σ : ASt) : c22_1.wp P Q a σ = ACode.wp P (.ops [
    ⟨(some 3), none, .q (.fa 0 (.t 1)), []⟩,
    ⟨(some 4), none, .q (.ld none (.t 3)), []⟩,
    ⟨(some 5), none, .q (.fa 1 (.t 1)), []⟩,
    ⟨(some 6), none, .q (.ld none (.t 5)), []⟩,
    ⟨(some 7), none, .q (.build [(.int .i64 0), (.int .i64 0), (.int .i64 0), (.int .i64 0)] [(0, 1, (.t 4)), (1, 1, (.t 6)), (2, 1, (.v (.int .i64 1))), (3, 1, (.v (.int .i64 1)))]), []⟩,
    ⟨none, none, .e (.store 4 (.t 2) (.t 7)), []⟩]) Q a σ := id rfl
@[go_sem] theorem c22_2_wp (P : Program) (Q : APost) (a : AFr) (σ : ASt) : c22_2.wp P Q a σ = ACode.wp P (.seq c22_1 .ret) Q a σ := id rfl
@[go_sem] theorem c22_3_wp (P : Program) (Q : APost) (a : AFr) (σ : ASt) : c22_3.wp P Q a σ = ACode.wp P (.seq c22_0 c22_2) Q a σ := id rfl
def c22 : AFn := ⟨8, [.c 2 (some 4)], c22_3⟩
set_option maxRecDepth 100000 in
theorem c22_ok : compF Tryd.prog Tryd.f22 = some c22 := by kernel_rfl
theorem a22 {args : List AV} {σ : ASt} {R : AV → ASt → Prop} (hl : args.length ≤ 8) (h : c22_3.wp Tryd.prog (RetQ [.c 2 (some 4)] R) (init args) σ) : ACalls Tryd.prog 22 args σ R := acalls_of Tryd.func22 c22_ok hl h

/-! 27: tabular/addr.Letters -/
def c27_0 : ACode := .ops [
    ⟨(some 2), none, .q (.mv (.v (.str []))), []⟩]
def c27_1 : ACode := .ops [
    ⟨(some 4), none, .q (.mv (.t 0)), []⟩,
    ⟨(some 5), none, .q (.bin .lss (.t 4) (.v (.int .i64 0))), []⟩,
    ⟨(some 6), none, .q (.mv (.t 5)), []⟩,
    ⟨(some 7), (some (6, false)), .q (.mv (.t 0)), []⟩,
    ⟨(some 8), (some (6, false)), .q (.bin .geq (.t 7) (.v (.int .i64 700))), []⟩,
    ⟨(some 9), none, .q (.pick (.t 6) (.v (.bool true)) (.t 8)), []⟩]
def c27_2 : ACode := .ops [
    ⟨(some 2), none, .q (.mv (.v (.str []))), []⟩]
def c27_3 : ACode := .seq c27_2 .ret
def c27_4 : ACode := .cond (.t 9) c27_3 .skip
def c27_5 : ACode := .seq c27_1 c27_4
def c27_6 : ACode := .ops [
    ⟨(some 3), none, .q (.mv (.v (.str []))), []⟩]
def c27_7 : ACode := .ops [
    ⟨(some 10), none, .q (.mv (.t 0)), []⟩,
    ⟨(some 11), none, .q (.bin .add (.t 10) (.v (.int .i64 1))), []⟩,
    ⟨(some 0), none, .q (.mv (.t 11)), []⟩]
def c27_8 : ACode := .ops [
    ⟨(some 12), none, .q (.mv (.t 0)), []⟩,
    ⟨(some 13), none, .q (.bin .gtr (.t 12) (.v (.int .i64 0))), []⟩]
def c27_9 : ACode := .cond (.t 13) .skip (.exit 0)
def c27_10 : ACode := .seq c27_8 c27_9
def c27_11 : ACode := .ops [
    ⟨(some 17), none, .q (.mv (.t 0)), []⟩,
    ⟨(some 18), none, .q (.bin .sub (.t 17) (.v (.int .i64 1))), []⟩,
    ⟨(some 19), none, .q (.bin .rem (.t 18) (.v (.int .i64 26))), []⟩,
    ⟨(some 20), none, .q (.bin .add (.v (.int .i64 65)) (.t 19)), []⟩,
    ⟨(some 21), none, .q (.conv .u8 (.t 20)), []⟩,
    ⟨(some 22), none, .q (.bsl 1 [(.t 21)]), []⟩,
    ⟨(some 23), none, .q (.b2s (.t 22)), []⟩,
    ⟨(some 24), none, .q (.mv (.t 3)), []⟩,
    ⟨(some 25), none, .q (.bin .add (.t 23) (.t 24)), []⟩,
    ⟨(some 3), none, .q (.mv (.t 25)), []⟩]
def c27_12 : ACode := .block 1 c27_11
def c27_13 : ACode := .ops [
    ⟨(some 14), none, .q (.mv (.t 0)), []⟩,
    ⟨(some 15), none, .q (.bin .sub (.t 14) (.v (.int .i64 1))), []⟩,
    ⟨(some 16), none, .q (.bin .quo (.t 15) (.v (.int .i64 26))), []⟩,
    ⟨(some 0), none, .q (.mv (.t 16)), []⟩]
def c27_14 : ACode := .seq c27_12 c27_13
def c27_15 : ACode := .seq c27_10 c27_14
def c27_16 : ACode := .loop c27_15
def c27_17 : ACode := .block 0 c27_16
def c27_18 : ACode := .seq c27_7 c27_17
def c27_19 : ACode := .ops [
    ⟨(some 26), none, .q (.mv (.t 3)), []⟩,
    ⟨(some 2), none, .q (.mv (.t 26)), []⟩]
def c27_20 : ACode := .seq c27_19 .ret
def c27_21 : ACode := .seq c27_18 c27_20
def c27_22 : ACode := .seq c27_6 c27_21
def c27_23 : ACode := .seq c27_5 c27_22
def c27_24 : ACode := .seq c27_0 c27_23
@[go_sem] theorem c27_0_wp (P : Program) (Q : APost) (a : AFr) (σ : ASt) : c27_0.wp P Q a σ = ACode.wp P (.ops [
    ⟨(some 2), none, .q (.mv (.v (.str []))), []⟩]) Q a σ := id rfl
@[go_sem] theorem c27_1_wp (P : Program) (Q : APost) (a : AFr) (σ : ASt) : c27_1.wp P Q a σ = ACode.wp P (.ops [
    ⟨(some 4), none, .q (.mv (.t 0)), []⟩,
    ⟨(some 5), none, .q (.bin .lss (.t 4) (.v (.int .i64 0))), []⟩,
    ⟨(some 6), none, .q (.mv (.t 5)), []⟩,
    ⟨(some 7), (some (6, false)), .q (.mv (.t 0)), []⟩,
    ⟨(some 8), (some (6, false)), .q (.bin .geq (.t 7) (.v (.int .i64 700))), []⟩,
    ⟨(some 9), none, .q (.pick (.t 6) (.v (.bool true)) (.t 8)), []⟩]) Q a σ := id rfl
@[go_sem] theorem c27_2_wp (P : Program) (Q : APost) (a : AFr) (σ : ASt) : c27_2.wp P Q a σ = ACode.wp P (.ops [
    ⟨(some 2), none, .q (.mv (.v (.str []))), []⟩]) Q a σ := id rfl
@[go_sem] theorem c27_3_wp (P : Program) (Q : APost) (a : AFr) (σ : ASt) : c27_3.wp P Q a σ = ACode.wp P (.seq c27_2 .ret) Q a σ := id rfl
@[go_sem] theorem c27_4_wp (P : Program) (Q : APost) (a : AFr) (σ : ASt) : c27_4.wp P Q a σ = ACode.wp P (.cond (.t 9) c27_3 .skip) Q a σ := id rfl
@[go_sem] theorem c27_5_wp (P : Program) (Q : APost) (a : AFr) (σ : ASt) : c27_5.wp P Q a σ = ACode.wp P (.seq c27_1 c27_4) Q a σ := id rfl
@[go_sem] theorem c27_6_wp (P : Program) (Q : APost) (a : AFr) (σ : ASt) : c27_6.wp P Q a σ = ACode.wp P (.ops [
    ⟨(some 3), none, .q (.mv (.v (.str []))), []⟩]) Q a σ := id rfl
@[go_sem] theorem c27_7_wp (P : Program) (Q : APost) (a : AFr) (σ : ASt) : c27_7.wp P Q a σ = ACode.wp P (.ops [
    ⟨(some 10), none, .q (.mv (.t 0)), []⟩,
    ⟨(some 11), none, .q (.bin .add (.t 10) (.v (.int .i64 1))), []⟩,
    ⟨(some 0), none, .q (.mv (.t 11)), []⟩]) Q a σ := id rfl
@[go_sem] theorem c27_8_wp (P : Program) (Q : APost) (a : AFr) (σ : ASt) : c27_8.wp P Q a σ = ACode.wp P (.ops [
    ⟨(some 12), none, .q (.mv (.t 0)), []⟩,
    ⟨(some 13), none, .q (.bin .gtr (.t 12) (.v (.int .i64 0))), []⟩]) Q a σ := id rfl
@[go_sem] theorem c27_9_wp (P : Program) (Q : APost) (a : AFr) (σ : ASt) : c27_9.wp P Q a σ = ACode.wp P (.cond (.t 13) .skip (.exit 0)) Q a σ := id rfl
@[go_sem] theorem c27_10_wp (P : Program) (Q : APost) (a : AFr) (σ : ASt) : c27_10.wp P Q a σ = ACode.wp P (.seq c27_8 c27_9) Q a σ := id rfl
@[go_sem] theorem c27_11_wp (P : Program) (Q : APost) (a : AFr) (σ : ASt) : c27_11.wp P Q a σ = ACode.wp P (.ops [
    ⟨(some 17), none, .q (.mv (.t 0)), []⟩,
    ⟨(some 18), none, .q (.bin .sub (.t 17) (.v (.int .i64 1))), []⟩,
    ⟨(some 19), none, .q (.bin .rem (.t 18) (.v (.int .i64 26))), []⟩,
    ⟨(some 20), none, .q (.bin .add (.v (.int .i64 65)) (.t 19)), []⟩,
    ⟨(some 21), none, .q (.conv .u8 (.t 20)), []⟩,
    ⟨(some 22), none, .q (.bsl 1 [(.t 21)]), []⟩,
    ⟨(some 23), none, .q (.b2s (.t 22)), []⟩,
    ⟨(some 24), none, .q (.mv (.t 3)), []⟩,
    ⟨(some 25), none, .q (.bin .add (.t 23) (.t 24)), []⟩,
    ⟨(some 3), none, .q (.mv (.t 25)), []⟩]) Q a σ := id rfl
@[go_sem] theorem c27_12_wp (P : Program) (Q : APost) (a : AFr) (σ : ASt) : c27_12.wp P Q a σ = ACode.wp P (.block 1 c27_11) Q a σ := id rfl
@[go_sem] theorem c27_13_wp (P : Program) (Q : APost) (a : AFr) (σ : ASt) : c27_13.wp P Q a σ = ACode.wp P (.ops [
    ⟨(some 14), none, .q (.mv (.t 0)), []⟩,
    ⟨(some 15), none, .q (.bin .sub (.t 14) (.v (.int .i64 1))), []⟩,
    ⟨(some 16), none, .q (.bin .quo (.t 15) (.v (.int .i64 26))), []⟩,
    ⟨(some 0), none, .q (.mv (.t 16)), []⟩]) Q a σ := id rfl
@[go_sem] theorem c27_14_wp (P : Program) (Q : APost) (a : AFr) (σ : ASt) : c27_14.wp P Q a σ = ACode.wp P (.seq c27_12 c27_13) Q a σ := id rfl
@[go_sem] theorem c27_15_wp (P : Program) (Q : APost) (a : AFr) (σ : ASt) : c27_15.wp P Q a σ = ACode.wp P (.seq c27_10 c27_14) Q a σ := id rfl
@[go_sem] theorem c27_16_wp (P : Program) (Q : APost) (a : AFr) (σ : ASt) : c27_16.wp P Q a σ = ACode.wp P (.loop c27_15) Q a σ := id rfl
@[go_sem] theorem c27_17_wp (P : Program) (Q : APost) (a : AFr) (σ : ASt) : c27_17.wp P Q a σ = ACode.wp P (.block 0 c27_16) Q a σ := id rfl
@[go_sem] theorem c27_18_wp (P : Program) (Q : APost) (a : AFr) (σ : ASt) : c27_18.wp P Q a σ = ACode.wp P (.seq c27_7 c27_17) Q a σ := id rfl
@[go_sem] theorem c27_19_wp (P : Program) (Q : APost) (a : AFr) (σ : ASt) : c27_19.wp P Q a σ = ACode.wp P (.ops [
    ⟨(some 26), none, .q (.mv (.t 3)), []⟩,
    ⟨(some 2), none, .q (.mv (.t 26)), []⟩]) Q a σ := id rfl
@[go_sem] theorem c27_20_wp (P : Program) (Q : APost) (a : AFr) (σ : ASt) : c27_20.wp P Q a σ = ACode.wp P (.seq c27_19 .ret) Q a σ := id rfl
@[go_sem] theorem c27_21_wp (P : Program) (Q : APost) (a : AFr) (σ : ASt) : c27_21.wp P Q a σ = ACode.wp P (.seq c27_18 c27_20) Q a σ := id rfl
@[go_sem] theorem c27_22_wp (P : Program) (Q : APost) (a : AFr) (σ : ASt) : c27_22.wp P Q a σ = ACode.wp P (.seq c27_6 c27_21) Q a σ := id rfl
@[go_sem] theorem c27_23_wp (P : Program) (Q : APost) (a : AFr) (σ : ASt) : c27_23.wp P Q a σ = ACode.wp P (.seq c27_5 c27_22) Q a σ := id rfl
@[go_sem] theorem c27_24_wp (P : Program) (Q : APost) (a : AFr) (σ : ASt) : c27_24.wp P Q a σ = ACode.wp P (.seq c27_0 c27_23) Q a σ := id rfl
def c27 : AFn := ⟨27, [.t 2], c27_24⟩
set_option maxRecDepth 100000 in
theorem c27_ok : compF Tryd.prog Tryd.f27 = some c27 := by kernel_rfl
theorem a27 {args : List AV} {σ : ASt} {R : AV → ASt → Prop} (hl : args.length ≤ 27) (h : c27_24.wp Tryd.prog (RetQ [.t 2] R) (init args) σ) : ACalls Tryd.prog 27 args σ R := acalls_of Tryd.func27 c27_ok hl h

/-! 28: (tabular/addr.Area).Rect -/
def c28_0 : ACode := .ops [
    ⟨(some 1), none, .e (.box (.t 0)), []⟩,
    ⟨(some 2), none, .e (.alloc [(.int .i64 0), (.int .i64 0), (.int .i64 0), (.int .i64 0)]), []⟩]
def c28_1 : ACode := .ops [
    ⟨(some 3), none, .q (.ld (some 8) (.t 1)), []⟩,
    ⟨(some 4), none, .e (.call 42 [(.t 3)]), []⟩,
    ⟨none, none, .e (.store 8 (.t 1) (.t 4)), []⟩]
def c28_2 : ACode := .ops [
    ⟨(some 5), none, .q (.fa 0 (.t 1)), []⟩,
    ⟨(some 6), none, .q (.fa 0 (.t 5)), []⟩,
    ⟨(some 7), none, .q (.ld none (.t 6)), []⟩,
    ⟨(some 8), none, .q (.fa 0 (.t 1)), []⟩,
    ⟨(some 9), none, .q (.fa 1 (.t 8)), []⟩,
    ⟨(some 10), none, .q (.ld none (.t 9)), []⟩,
    ⟨(some 11), none, .q (.fa 4 (.t 1)), []⟩,
    ⟨(some 12), none, .q (.fa 0 (.t 11)), []⟩,
    ⟨(some 13), none, .q (.ld none (.t 12)), []⟩,
    ⟨(some 14), none, .q (.fa 0 (.t 1)), []⟩,
    ⟨(some 15), none, .q (.fa 0 (.t 14)), []⟩,
    ⟨(some 16), none, .q (.ld none (.t 15)), []⟩,
    ⟨(some 17), none, .q (.bin .sub (.t 13) (.t 16)), []⟩,
    ⟨(some 18), none, .q (.bin .add (.t 17) (.v (.int .i64 1))), []⟩,
    ⟨(some 19), none, .q (.fa 4 (.t 1)), []⟩,
    ⟨(some 20), none, .q (.fa 1 (.t 19)), []⟩,
    ⟨(some 21), none, .q (.ld none (.t 20)), []⟩,
    ⟨(some 22), none, .q (.fa 0 (.t 1)), []⟩,
    ⟨(some 23), none, .q (.fa 1 (.t 22)), []⟩,
    ⟨(some 24), none, .q (.ld none (.t 23)), []⟩,
    ⟨(some 25), none, .q (.bin .sub (.t 21) (.t 24)), []⟩,
    ⟨(some 26), none, .q (.bin .add (.t 25) (.v (.int .i64 1))), []⟩,
    ⟨(some 27), none, .q (.build [(.int .i64 0), (.int .i64 0), (.int .i64 0), (.int .i64 0)] [(0, 1, (.t 7)), (1, 1, (.t 10)), (2, 1, (.t 18)), (3, 1, (.t 26))]), []⟩,
    ⟨none, none, .e (.store 4 (.t 2) (.t 27)), []⟩]
def c28_3 : ACode := .seq c28_2 .ret
def c28_4 : ACode := .seq c28_1 c28_3
def c28_5 : ACode := .seq c28_0 c28_4
@[go_sem] theorem c28_0_wp (P : Program) (Q : APost) (a : AFr) (σ : ASt) : c28_0.wp P Q a σ = ACode.wp P (.ops [
    ⟨(some 1), none, .e (.box (.t 0)), []⟩,
    ⟨(some 2), none, .e (.alloc [(.int .i64 0), (.int .i64 0), (.int .i64 0), (.int .i64 0)]), []⟩]) Q a σ := id rfl
@[go_sem] theorem c28_1_wp (P : Program) (Q : APost) (a : AFr) (σ : ASt) : c28_1.wp P Q a σ = ACode.wp P (.ops [
    ⟨(some 3), none, .q (.ld (some 8) (.t 1)), []⟩,
    ⟨(some 4), none, .e (.call 42 [(.t 3)]), []⟩,
    ⟨none, none, .e (.store 8 (.t 1) (.t 4)), []⟩]) Q a σ := id rfl
@[go_sem] theorem c28_2_wp (P : Program) (Q : APost) (a : AFr) (σ : ASt) : c28_2.wp P Q a σ = ACode.wp P (.ops [
    ⟨(some 5), none, .q (.fa 0 (.t 1)), []⟩,
    ⟨(some 6), none, .q (.fa 0 (.t 5)), []⟩,
    ⟨(some 7), none, .q (.ld none (.t 6)), []⟩,
    ⟨(some 8), none, .q (.fa 0 (.t 1)), []⟩,
    ⟨(some 9), none, .q (.fa 1 (.t 8)), []⟩,
    ⟨(some 10), none, .q (.ld none (.t 9)), []⟩,
    ⟨(some 11), none, .q (.fa 4 (.t 1)), []⟩,
    ⟨(some 12), none, .q (.fa 0 (.t 11)), []⟩,
    ⟨(some 13), none, .q (.ld none (.t 12)), []⟩,
    ⟨(some 14), none, .q (.fa 0 (.t 1)), []⟩,
    ⟨(some 15), none, .q (.fa 0 (.t 14)), []⟩,
    ⟨(some 16), none, .q (.ld none (.t 15)), []⟩,
    ⟨(some 17), none, .q (.bin .sub (.t 13) (.t 16)), []⟩,
    ⟨(some 18), none, .q (.bin .add (.t 17) (.v (.int .i64 1))), []⟩,
    ⟨(some 19), none, .q (.fa 4 (.t 1)), []⟩,
    ⟨(some 20), none, .q (.fa 1 (.t 19)), []⟩,
    ⟨(some 21), none, .q (.ld none (.t 20)), []⟩,
    ⟨(some 22), none, .q (.fa 0 (.t 1)), []⟩,
    ⟨(some 23), none, .q (.fa 1 (.t 22)), []⟩,
    ⟨(some 24), none, .q (.ld none (.t 23)), []⟩,
    ⟨(some 25), none, .q (.bin .sub (.t 21) (.t 24)), []⟩,
    ⟨(some 26), none, .q (.bin .add (.t 25) (.v (.int .i64 1))), []⟩,
    ⟨(some 27), none, .q (.build [(.int .i64 0), (.int .i64 0), (.int .i64 0), (.int .i64 0)] [(0, 1, (.t 7)), (1, 1, (.t 10)), (2, 1, (.t 18)), (3, 1, (.t 26))]), []⟩,
    ⟨none, none, .e (.store 4 (.t 2) (.t 27)), []⟩]) Q a σ := id rfl
@[go_sem] theorem c28_3_wp (P : Program) (Q : APost) (a : AFr) (σ : ASt) : c28_3.wp P Q a σ = ACode.wp P (.seq c28_2 .ret) Q a σ := id rfl
@[go_sem] theorem c28_4_wp (P : Program) (Q : APost) (a : AFr) (σ : ASt) : c28_4.wp P Q a σ = ACode.wp P (.seq c28_1 c28_3) Q a σ := id rfl
@[go_sem] theorem c28_5_wp (P : Program) (Q : APost) (a : AFr) (σ : ASt) : c28_5.wp P Q a σ = ACode.wp P (.seq c28_0 c28_4) Q a σ := id rfl
def c28 : AFn := ⟨28, [.c 2 (some 4)], c28_5⟩
set_option maxRecDepth 100000 in
theorem c28_ok : compF Tryd.prog Tryd.f28 = some c28 := by kernel_rfl
theorem a28 {args : List AV} {σ : ASt} {R : AV → ASt → Prop} (hl : args.length ≤ 28) (h : c28_5.wp Tryd.prog (RetQ [.c 2 (some 4)] R) (init args) σ) : ACalls Tryd.prog 28 args σ R := acalls_of Tryd.func28 c28_ok hl h

/-! 29: tabular/addr.dollar -/
def c29_0 : ACode := .ops [
    ⟨(some 2), none, .q (.mv (.v (.str []))), []⟩]
def c29_1 : ACode := .ops [
    ⟨(some 3), none, .q (.mv (.t 0)), []⟩]
def c29_2 : ACode := .ops [
    ⟨(some 2), none, .q (.mv (.v (.str [36]))), []⟩]
def c29_3 : ACode := .seq c29_2 .ret
def c29_4 : ACode := .cond (.t 3) c29_3 .skip
def c29_5 : ACode := .seq c29_1 c29_4
def c29_6 : ACode := .ops [
    ⟨(some 2), none, .q (.mv (.v (.str []))), []⟩]
def c29_7 : ACode := .seq c29_6 .ret
def c29_8 : ACode := .seq c29_5 c29_7
def c29_9 : ACode := .seq c29_0 c29_8
@[go_sem] theorem c29_0_wp (P : Program) (Q : APost) (a : AFr) (σ : ASt) : c29_0.wp P Q a σ = ACode.wp P (.ops [
    ⟨(some 2), none, .q (.mv (.v (.str []))), []⟩]) Q a σ := id rfl
@[go_sem] theorem c29_1_wp (P : Program) (Q : APost) (a : AFr) (σ : ASt) : c29_1.wp P Q a σ = ACode.wp P (.ops [
    ⟨(some 3), none, .q (.mv (.t 0)), []⟩]) Q a σ := id rfl
@[go_sem] theorem c29_2_wp (P : Program) (Q : APost) (a : AFr) (σ : ASt) : c29_2.wp P Q a σ = ACode.wp P (.ops [
    ⟨(some 2), none, .q (.mv (.v (.str [36]))), []⟩]) Q a σ := id rfl
@[go_sem] theorem c29_3_wp (P : Program) (Q : APost) (a : AFr) (σ : ASt) : c29_3.wp P Q a σ = ACode.wp P (.seq c29_2 .ret) Q a σ := id rfl
@[go_sem] theorem c29_4_wp (P : Program) (Q : APost) (a : AFr) (σ : ASt) : c29_4.wp P Q a σ = ACode.wp P (.cond (.t 3) c29_3 .skip) Q a σ := id rfl
@[go_sem] theorem c29_5_wp (P : Program) (Q : APost) (a : AFr) (σ : ASt) : c29_5.wp P Q a σ = ACode.wp P (.seq c29_1 c29_4) Q a σ := id rfl
@[go_sem] theorem c29_6_wp (P : Program) (Q : APost) (a : AFr) (σ : ASt) : c29_6.wp P Q a σ = ACode.wp P (.ops [
    ⟨(some 2), none, .q (.mv (.v (.str []))), []⟩]) Q a σ := id rfl
@[go_sem] theorem c29_7_wp (P : Program) (Q : APost) (a : AFr) (σ : ASt) : c29_7.wp P Q a σ = ACode.wp P (.seq c29_6 .ret) Q a σ := id rfl
@[go_sem] theorem c29_8_wp (P : Program) (Q : APost) (a : AFr) (σ : ASt) : c29_8.wp P Q a σ = ACode.wp P (.seq c29_5 c29_7) Q a σ := id rfl
@[go_sem] theorem c29_9_wp (P : Program) (Q : APost) (a : AFr) (σ : ASt) : c29_9.wp P Q a σ = ACode.wp P (.seq c29_0 c29_8) Q a σ := id rfl
def c29 : AFn := ⟨4, [.t 2], c29_9⟩
set_option maxRecDepth 100000 in
theorem c29_ok : compF Tryd.prog Tryd.f29 = some c29 := by kernel_rfl
theorem a29 {args : List AV} {σ : ASt} {R : AV → ASt → Prop} (hl : args.length ≤ 4) (h : c29_9.wp Tryd.prog (RetQ [.t 2] R) (init args) σ) : ACalls Tryd.prog 29 args σ R := acalls_of Tryd.func29 c29_ok hl h

/-! 31: tabular/addr.letter -/
def c31_0 : ACode := .ops [
    ⟨(some 2), none, .q (.mv (.v (.int .i64 0))), []⟩]
def c31_1 : ACode := .ops [
    ⟨(some 4), none, .q (.mv (.t 0)), []⟩,
    ⟨(some 5), none, .q (.bin .geq (.t 4) (.v (.int .u8 65))), []⟩,
    ⟨(some 6), none, .q (.mv (.t 5)), []⟩,
    ⟨(some 7), (some (6, true)), .q (.mv (.t 0)), []⟩,
    ⟨(some 8), (some (6, true)), .q (.bin .leq (.t 7) (.v (.int .u8 90))), []⟩,
    ⟨(some 9), none, .q (.pick (.t 6) (.t 8) (.v (.bool false))), []⟩,
    ⟨(some 3), none, .q (.mv (.t 9)), []⟩]
def c31_2 : ACode := .ops [
    ⟨(some 10), none, .q (.mv (.t 0)), []⟩,
    ⟨(some 11), none, .q (.bin .sub (.t 10) (.v (.int .u8 65))), []⟩,
    ⟨(some 12), none, .q (.conv .i64 (.t 11)), []⟩,
    ⟨(some 13), none, .q (.bin .add (.t 12) (.v (.int .i64 1))), []⟩,
    ⟨(some 2), none, .q (.mv (.t 13)), []⟩]
def c31_3 : ACode := .seq c31_2 .ret
def c31_4 : ACode := .ops [
    ⟨(some 15), none, .q (.mv (.t 0)), []⟩,
    ⟨(some 16), none, .q (.bin .geq (.t 15) (.v (.int .u8 97))), []⟩,
    ⟨(some 17), none, .q (.mv (.t 16)), []⟩,
    ⟨(some 18), (some (17, true)), .q (.mv (.t 0)), []⟩,
    ⟨(some 19), (some (17, true)), .q (.bin .leq (.t 18) (.v (.int .u8 122))), []⟩,
    ⟨(some 20), none, .q (.pick (.t 17) (.t 19) (.v (.bool false))), []⟩,
    ⟨(some 14), none, .q (.mv (.t 20)), []⟩]
def c31_5 : ACode := .ops [
    ⟨(some 21), none, .q (.mv (.t 0)), []⟩,
    ⟨(some 22), none, .q (.bin .sub (.t 21) (.v (.int .u8 97))), []⟩,
    ⟨(some 23), none, .q (.conv .i64 (.t 22)), []⟩,
    ⟨(some 24), none, .q (.bin .add (.t 23) (.v (.int .i64 1))), []⟩,
    ⟨(some 2), none, .q (.mv (.t 24)), []⟩]
def c31_6 : ACode := .seq c31_5 .ret
def c31_7 : ACode := .cond (.t 14) c31_6 .skip
def c31_8 : ACode := .seq c31_4 c31_7
def c31_9 : ACode := .cond (.t 3) c31_3 c31_8
def c31_10 : ACode := .seq c31_1 c31_9
def c31_11 : ACode := .block 0 c31_10
def c31_12 : ACode := .ops [
    ⟨(some 2), none, .q (.mv (.v (.int .i64 0))), []⟩]
def c31_13 : ACode := .seq c31_12 .ret
def c31_14 : ACode := .seq c31_11 c31_13
def c31_15 : ACode := .seq c31_0 c31_14
@[go_sem] theorem c31_0_wp (P : Program) (Q : APost) (a : AFr) (σ : ASt) : c31_0.wp P Q a σ = ACode.wp P (.ops [
    ⟨(some 2), none, .q (.mv (.v (.int .i64 0))), []⟩]) Q a σ := id rfl
@[go_sem] theorem c31_1_wp (P : Program) (Q : APost) (a : AFr) (σ : ASt) : c31_1.wp P Q a σ = ACode.wp P (.ops [
    ⟨(some 4), none, .q (.mv (.t 0)), []⟩,
    ⟨(some 5), none, .q (.bin .geq (.t 4) (.v (.int .u8 65))), []⟩,
    ⟨(some 6), none, .q (.mv (.t 5)), []⟩,
    ⟨(some 7), (some (6, true)), .q (.mv (.t 0)), []⟩,
    ⟨(some 8), (some (6, true)), .q (.bin .leq (.t 7) (.v (.int .u8 90))), []⟩,
    ⟨(some 9), none, .q (.pick (.t 6) (.t 8) (.v (.bool false))), []⟩,
    ⟨(some 3), none, .q (.mv (.t 9)), []⟩]) Q a σ := id rfl
@[go_sem] theorem c31_2_wp (P : Program) (Q : APost) (a : AFr) (σ : ASt) : c31_2.wp P Q a σ = ACode.wp P (.ops [
    ⟨(some 10), none, .q (.mv (.t 0)), []⟩,
    ⟨(some 11), none, .q (.bin .sub (.t 10) (.v (.int .u8 65))), []⟩,
    ⟨(some 12), none, .q (.conv .i64 (.t 11)), []⟩,
    ⟨(some 13), none, .q (.bin .add (.t 12) (.v (.int .i64 1))), []⟩,
    ⟨(some 2), none, .q (.mv (.t 13)), []⟩]) Q a σ := id rfl
@[go_sem] theorem c31_3_wp (P : Program) (Q : APost) (a : AFr) (σ : ASt) : c31_3.wp P Q a σ = ACode.wp P (.seq c31_2 .ret) Q a σ := id rfl
@[go_sem] theorem c31_4_wp (P : Program) (Q : APost) (a : AFr) (σ : ASt) : c31_4.wp P Q a σ = ACode.wp P (.ops [
    ⟨(some 15), none, .q (.mv (.t 0)), []⟩,
    ⟨(some 16), none, .q (.bin .geq (.t 15) (.v (.int .u8 97))), []⟩,
    ⟨(some 17), none, .q (.mv (.t 16)), []⟩,
    ⟨(some 18), (some (17, true)), .q (.mv (.t 0)), []⟩,
    ⟨(some 19), (some (17, true)), .q (.bin .leq (.t 18) (.v (.int .u8 122))), []⟩,
    ⟨(some 20), none, .q (.pick (.t 17) (.t 19) (.v (.bool false))), []⟩,
    ⟨(some 14), none, .q (.mv (.t 20)), []⟩]) Q a σ := id rfl
@[go_sem] theorem c31_5_wp (P : Program) (Q : APost) (a : AFr) (σ : ASt) : c31_5.wp P Q a σ = ACode.wp P (.ops [
    ⟨(some 21), none, .q (.mv (.t 0)), []⟩,
    ⟨(some 22), none, .q (.bin .sub (.t 21) (.v (.int .u8 97))), []⟩,
    ⟨(some 23), none, .q (.conv .i64 (.t 22)), []⟩,
    ⟨(some 24), none, .q (.bin .add (.t 23) (.v (.int .i64 1))), []⟩,
    ⟨(some 2), none, .q (.mv (.t 24)), []⟩]) Q a σ := id rfl
@[go_sem] theorem c31_6_wp (P : Program) (Q : APost) (a : AFr) (σ : ASt) : c31_6.wp P Q a σ = ACode.wp P (.seq c31_5 .ret) Q a σ := id rfl
@[go_sem] theorem c31_7_wp (P : Program) (Q : APost) (a : AFr) (σ : ASt) : c31_7.wp P Q a σ = ACode.wp P (.cond (.t 14) c31_6 .skip) Q a σ := id rfl
@[go_sem] theorem c31_8_wp (P : Program) (Q : APost) (a : AFr) (σ : ASt) : c31_8.wp P Q a σ = ACode.wp P (.seq c31_4 c31_7) Q a σ := id rfl
@[go_sem] theorem c31_9_wp (P : Program) (Q : APost) (a : AFr) (σ : ASt) : c31_9.wp P Q a σ = ACode.wp P (.cond (.t 3) c31_3 c31_8) Q a σ := id rfl
@[go_sem] theorem c31_10_wp (P : Program) (Q : APost) (a : AFr) (σ : ASt) : c31_10.wp P Q a σ = ACode.wp P (.seq c31_1 c31_9) Q a σ := id rfl
@[go_sem] theorem c31_11_wp (P : Program) (Q : APost) (a : AFr) (σ : ASt) : c31_11.wp P Q a σ = ACode.wp P (.block 0 c31_10) Q a σ := id rfl
@[go_sem] theorem c31_12_wp (P : Program) (Q : APost) (a : AFr) (σ : ASt) : c31_12.wp P Q a σ = ACode.wp P (.ops [
    ⟨(some 2), none, .q (.mv (.v (.int .i64 0))), []⟩]) Q a σ := id rfl
@[go_sem] theorem c31_13_wp (P : Program) (Q : APost) (a : AFr) (σ : ASt) : c31_13.wp P Q a σ = ACode.wp P (.seq c31_12 .ret) Q a σ := id rfl
@[go_sem] theorem c31_14_wp (P : Program) (Q : APost) (a : AFr) (σ : ASt) : c31_14.wp P Q a σ = ACode.wp P (.seq c31_11 c31_13) Q a σ := id rfl
@[go_sem] theorem c31_15_wp (P : Program) (Q : APost) (a : AFr) (σ : ASt) : c31_15.wp P Q a σ = ACode.wp P (.seq c31_0 c31_14) Q a σ := id rfl
def c31 : AFn := ⟨25, [.t 2], c31_15⟩
set_option maxRecDepth 100000 in
theorem c31_ok : compF Tryd.prog Tryd.f31 = some c31 := by kernel_rfl
theorem a31 {args : List AV} {σ : ASt} {R : AV → ASt → Prop} (hl : args.length ≤ 25) (h : c31_15.wp Tryd.prog (RetQ [.t 2] R) (init args) σ) : ACalls Tryd.prog 31 args σ R := acalls_of Tryd.func31 c31_ok hl h

/-! 32: tabular/addr.Column -/
def c32_0 : ACode := .ops [
    ⟨(some 2), none, .q (.mv (.v (.int .i64 0))), []⟩,
    ⟨(some 3), none, .q (.mv (.v (.bool false))), []⟩]
def c32_1 : ACode := .ops [
    ⟨(some 4), none, .q (.mv (.v (.int .i64 0))), []⟩]
def c32_2 : ACode := .ops [
    ⟨(some 7), none, .q (.mv (.t 0)), []⟩,
    ⟨(some 8), none, .e (.s2b (.t 7)), []⟩,
    ⟨(some 9), none, .q (.len (.t 8)), []⟩,
    ⟨(some 10), none, .q (.mv (.v (.int .i64 0))), []⟩]
def c32_3 : ACode := .ops [
    ⟨(some 11), none, .q (.bin .lss (.t 10) (.t 9)), []⟩]
def c32_4 : ACode := .cond (.t 11) .skip (.exit 0)
def c32_5 : ACode := .ops [
    ⟨(some 12), none, .q (.ia 1 (.t 8) (.t 10)), []⟩,
    ⟨(some 13), none, .q (.ld none (.t 12)), []⟩,
    ⟨(some 6), none, .q (.mv (.t 13)), []⟩]
def c32_6 : ACode := .ops [
    ⟨(some 14), none, .q (.mv (.t 6)), []⟩,
    ⟨(some 15), none, .e (.call 31 [(.t 14)]), []⟩,
    ⟨(some 16), none, .q (.bin .eql (.t 15) (.v (.int .i64 0))), []⟩,
    ⟨(some 17), none, .q (.mv (.t 16)), []⟩,
    ⟨(some 18), (some (17, false)), .q (.mv (.t 4)), []⟩,
    ⟨(some 19), (some (17, false)), .q (.bin .gtr (.t 18) (.v (.int .i64 700))), []⟩,
    ⟨(some 20), none, .q (.pick (.t 17) (.v (.bool true)) (.t 19)), []⟩]
def c32_7 : ACode := .ops [
    ⟨(some 2), none, .q (.mv (.v (.int .i64 0))), []⟩,
    ⟨(some 3), none, .q (.mv (.v (.bool false))), []⟩]
def c32_8 : ACode := .seq c32_7 .ret
def c32_9 : ACode := .cond (.t 20) c32_8 .skip
def c32_10 : ACode := .seq c32_6 c32_9
def c32_11 : ACode := .ops [
    ⟨(some 21), none, .q (.mv (.t 4)), []⟩,
    ⟨(some 22), none, .q (.bin .mul (.v (.int .i64 26)) (.t 21)), []⟩,
    ⟨(some 23), none, .q (.mv (.t 6)), []⟩,
    ⟨(some 24), none, .e (.call 31 [(.t 23)]), []⟩,
    ⟨(some 25), none, .q (.bin .add (.t 22) (.t 24)), []⟩,
    ⟨(some 4), none, .q (.mv (.t 25)), []⟩]
def c32_12 : ACode := .seq c32_10 c32_11
def c32_13 : ACode := .seq c32_5 c32_12
def c32_14 : ACode := .block 1 c32_13
def c32_15 : ACode := .ops [
    ⟨(some 26), none, .q (.bin .add (.t 10) (.v (.int .i64 1))), []⟩,
    ⟨(some 10), none, .q (.mv (.t 26)), []⟩]
def c32_16 : ACode := .seq c32_14 c32_15
def c32_17 : ACode := .seq c32_4 c32_16
def c32_18 : ACode := .seq c32_3 c32_17
def c32_19 : ACode := .loop c32_18
def c32_20 : ACode := .block 0 c32_19
def c32_21 : ACode := .seq c32_2 c32_20
def c32_22 : ACode := .ops [
    ⟨(some 27), none, .q (.mv (.t 4)), []⟩,
    ⟨(some 28), none, .q (.bin .lss (.t 27) (.v (.int .i64 1))), []⟩,
    ⟨(some 29), none, .q (.mv (.t 28)), []⟩,
    ⟨(some 30), (some (29, false)), .q (.mv (.t 4)), []⟩,
    ⟨(some 31), (some (29, false)), .q (.bin .gtr (.t 30) (.v (.int .i64 700))), []⟩,
    ⟨(some 32), none, .q (.pick (.t 29) (.v (.bool true)) (.t 31)), []⟩]
def c32_23 : ACode := .ops [
    ⟨(some 2), none, .q (.mv (.v (.int .i64 0))), []⟩,
    ⟨(some 3), none, .q (.mv (.v (.bool false))), []⟩]
def c32_24 : ACode := .seq c32_23 .ret
def c32_25 : ACode := .cond (.t 32) c32_24 .skip
def c32_26 : ACode := .seq c32_22 c32_25
def c32_27 : ACode := .ops [
    ⟨(some 33), none, .q (.mv (.t 4)), []⟩,
    ⟨(some 34), none, .q (.bin .sub (.t 33) (.v (.int .i64 1))), []⟩,
    ⟨(some 2), none, .q (.mv (.t 34)), []⟩,
    ⟨(some 3), none, .q (.mv (.v (.bool true))), []⟩]
def c32_28 : ACode := .seq c32_27 .ret
def c32_29 : ACode := .seq c32_26 c32_28
def c32_30 : ACode := .seq c32_21 c32_29
def c32_31 : ACode := .seq c32_1 c32_30
def c32_32 : ACode := .seq c32_0 c32_31
@[go_sem] theorem c32_0_wp (P : Program) (Q : APost) (a : AFr) (σ : ASt) : c32_0.wp P Q a σ = ACode.wp P (.ops [
    ⟨(some 2), none, .q (.mv (.v (.int .i64 0))), []⟩,
    ⟨(some 3), none, .q (.mv (.v (.bool false))), []⟩]) Q a σ := id rfl
@[go_sem] theorem c32_1_wp (P : Program) (Q : APost) (a : AFr) (σ : ASt) : c32_1.wp P Q a σ = ACode.wp P (.ops [
    ⟨(some 4), none, .q (.mv (.v (.int .i64 0))), []⟩]) Q a σ := id rfl
@[go_sem] theorem c32_2_wp (P : Program) (Q : APost) (a : AFr) (σ : ASt) : c32_2.wp P Q a σ = ACode.wp P (.ops [
    ⟨(some 7), none, .q (.mv (.t 0)), []⟩,
    ⟨(some 8), none, .e (.s2b (.t 7)), []⟩,
    ⟨(some 9), none, .q (.len (.t 8)), []⟩,
    ⟨(some 10), none, .q (.mv (.v (.int .i64 0))), []⟩]) Q a σ := id rfl
@[go_sem] theorem c32_3_wp (P : Program) (Q : APost) (a : AFr) (σ : ASt) : c32_3.wp P Q a σ = ACode.wp P (.ops [
    ⟨(some 11), none, .q (.bin .lss (.t 10) (.t 9)), []⟩]) Q a σ := id rfl
@[go_sem] theorem c32_4_wp (P : Program) (Q : APost) (a : AFr) (σ : ASt) : c32_4.wp P Q a σ = ACode.wp P (.cond (.t 11) .skip (.exit 0)) Q a σ := id rfl
@[go_sem] theorem c32_5_wp (P : Program) (Q : APost) (a : AFr) (σ : ASt) : c32_5.wp P Q a σ = ACode.wp P (.ops [
    ⟨(some 12), none, .q (.ia 1 (.t 8) (.t 10)), []⟩,
    ⟨(some 13), none, .q (.ld none (.t 12)), []⟩,
    ⟨(some 6), none, .q (.mv (.t 13)), []⟩]) Q a σ := id rfl
@[go_sem] theorem c32_6_wp (P : Program) (Q : APost) (a : AFr) (σ : ASt) : c32_6.wp P Q a σ = ACode.wp P (.ops [
    ⟨(some 14), none, .q (.mv (.t 6)), []⟩,
    ⟨(some 15), none, .e (.call 31 [(.t 14)]), []⟩,
    ⟨(some 16), none, .q (.bin .eql (.t 15) (.v (.int .i64 0))), []⟩,
    ⟨(some 17), none, .q (.mv (.t 16)), []⟩,
    ⟨(some 18), (some (17, false)), .q (.mv (.t 4)), []⟩,
    ⟨(some 19), (some (17, false)), .q (.bin .gtr (.t 18) (.v (.int .i64 700))), []⟩,
    ⟨(some 20), none, .q (.pick (.t 17) (.v (.bool true)) (.t 19)), []⟩]) Q a σ := id rfl
@[go_sem] theorem c32_7_wp (P : Program) (Q : APost) (a : AFr) (σ : ASt) : c32_7.wp P Q a σ = ACode.wp P (.ops [
    ⟨(some 2), none, .q (.mv (.v (.int .i64 0))), []⟩,
    ⟨(some 3), none, .q (.mv (.v (.bool false))), []⟩]) Q a σ := id rfl
@[go_sem] theorem c32_8_wp (P : Program) (Q : APost) (a : AFr) (σ : ASt) : c32_8.wp P Q a σ = ACode.wp P (.seq c32_7 .ret) Q a σ := id rfl
@[go_sem] theorem c32_9_wp (P : Program) (Q : APost) (a : AFr) (σ : ASt) : c32_9.wp P Q a σ = ACode.wp P (.cond (.t 20) c32_8 .skip) Q a σ := id rfl
@[go_sem] theorem c32_10_wp (P : Program) (Q : APost) (a : AFr) (σ : ASt) : c32_10.wp P Q a σ = ACode.wp P (.seq c32_6 c32_9) Q a σ := id rfl
@[go_sem] theorem c32_11_wp (P : Program) (Q : APost) (a : AFr) (σ : ASt) : c32_11.wp P Q a σ = ACode.wp P (.ops [
    ⟨(some 21), none, .q (.mv (.t 4)), []⟩,
    ⟨(some 22), none, .q (.bin .mul (.v (.int .i64 26)) (.t 21)), []⟩,
    ⟨(some 23), none, .q (.mv (.t 6)), []⟩,
    ⟨(some 24), none, .e (.call 31 [(.t 23)]), []⟩,
    ⟨(some 25), none, .q (.bin .add (.t 22) (.t 24)), []⟩,
    ⟨(some 4), none, .q (.mv (.t 25)), []⟩]) Q a σ := id rfl
@[go_sem] theorem c32_12_wp (P : Program) (Q : APost) (a : AFr) (σ : ASt) : c32_12.wp P Q a σ = ACode.wp P (.seq c32_10 c32_11) Q a σ := id rfl
@[go_sem] theorem c32_13_wp (P : Program) (Q : APost) (a : AFr) (σ : ASt) : c32_13.wp P Q a σ = ACode.wp P (.seq c32_5 c32_12) Q a σ := id rfl
@[go_sem] theorem c32_14_wp (P : Program) (Q : APost) (a : AFr) (σ : ASt) : c32_14.wp P Q a σ = ACode.wp P (.block 1 c32_13) Q a σ := id rfl
@[go_sem] theorem c32_15_wp (P : Program) (Q : APost) (a : AFr) (σ : ASt) : c32_15.wp P Q a σ = ACode.wp P (.ops [
    ⟨(some 26), none, .q (.bin .add (.t 10) (.v (.int .i64 1))), []⟩,
    ⟨(some 10), none, .q (.mv (.t 26)), []⟩]) Q a σ := id rfl
@[go_sem] theorem c32_16_wp (P : Program) (Q : APost) (a : AFr) (σ : ASt) : c32_16.wp P Q a σ = ACode.wp P (.seq c32_14 c32_15) Q a σ := id rfl
@[go_sem] theorem c32_17_wp (P : Program) (Q : APost) (a : AFr) (σ : ASt) : c32_17.wp P Q a σ = ACode.wp P (.seq c32_4 c32_16) Q a σ := id rfl
@[go_sem] theorem c32_18_wp (P : Program) (Q : APost) (a : AFr) (σ : ASt) : c32_18.wp P Q a σ = ACode.wp P (.seq c32_3 c32_17) Q a σ := id rfl
@[go_sem] theorem c32_19_wp (P : Program) (Q : APost) (a : AFr) (σ : ASt) : c32_19.wp P Q a σ = ACode.wp P (.loop c32_18) Q a σ := id rfl
@[go_sem] theorem c32_20_wp (P : Program) (Q : APost) (a : AFr) (σ : ASt) : c32_20.wp P Q a σ = ACode.wp P (.block 0 c32_19) Q a σ := id rfl
@[go_sem] theorem c32_21_wp (P : Program) (Q : APost) (a : AFr) (σ : ASt) : c32_21.wp P Q a σ = ACode.wp P (.seq c32_2 c32_20) Q a σ := id rfl
@[go_sem] theorem c32_22_wp (P : Program) (Q : APost) (a : AFr) (σ : ASt) : c32_22.wp P Q a σ = ACode.wp P (.ops [
    ⟨(some 27), none, .q (.mv (.t 4)), []⟩,
    ⟨(some 28), none, .q (.bin .lss (.t 27) (.v (.int .i64 1))), []⟩,
    ⟨(some 29), none, .q (.mv (.t 28)), []⟩,
    ⟨(some 30), (some (29, false)), .q (.mv (.t 4)), []⟩,
    ⟨(some 31), (some (29, false)), .q (.bin .gtr (.t 30) (.v (.int .i64 700))), []⟩,
    ⟨(some 32), none, .q (.pick (.t 29) (.v (.bool true)) (.t 31)), []⟩]) Q a σ := id rfl
@[go_sem] theorem c32_23_wp (P : Program) (Q : APost) (a : AFr) (σ : ASt) : c32_23.wp P Q a σ = ACode.wp P (.ops [
    ⟨(some 2), none, .q (.mv (.v (.int .i64 0))), []⟩,
    ⟨(some 3), none, .q (.mv (.v (.bool false))), []⟩]) Q a σ := id rfl
@[go_sem] theorem c32_24_wp (P : Program) (Q : APost) (a : AFr) (σ : ASt) : c32_24.wp P Q a σ = ACode.wp P (.seq c32_23 .ret) Q a σ := id rfl
@[go_sem] theorem c32_25_wp (P : Program) (Q : APost) (a : AFr) (σ : ASt) : c32_25.wp P Q a σ = ACode.wp P (.cond (.t 32) c32_24 .skip) Q a σ := id rfl
@[go_sem] theorem c32_26_wp (P : Program) (Q : APost) (a : AFr) (σ : ASt) : c32_26.wp P Q a σ = ACode.wp P (.seq c32_22 c32_25) Q a σ := id rfl
@[go_sem] theorem c32_27_wp (P : Program) (Q : APost) (a : AFr) (σ : ASt) : c32_27.wp P Q a σ = ACode.wp P (.ops [
    ⟨(some 33), none, .q (.mv (.t 4)), []⟩,
    ⟨(some 34), none, .q (.bin .sub (.t 33) (.v (.int .i64 1))), []⟩,
    ⟨(some 2), none, .q (.mv (.t 34)), []⟩,
    ⟨(some 3), none, .q (.mv (.v (.bool true))), []⟩]) Q a σ := id rfl
@[go_sem] theorem c32_28_wp (P : Program) (Q : APost) (a : AFr) (σ : ASt) : c32_28.wp P Q a σ = ACode.wp P (.seq c32_27 .ret) Q a σ := id rfl
@[go_sem] theorem c32_29_wp (P : Program) (Q : APost) (a : AFr) (σ : ASt) : c32_29.wp P Q a σ = ACode.wp P (.seq c32_26 c32_28) Q a σ := id rfl
@[go_sem] theorem c32_30_wp (P : Program) (Q : APost) (a : AFr) (σ : ASt) : c32_30.wp P Q a σ = ACode.wp P (.seq c32_21 c32_29) Q a σ := id rfl
@[go_sem] theorem c32_31_wp (P : Program) (Q : APost) (a : AFr) (σ : ASt) : c32_31.wp P Q a σ = ACode.wp P (.seq c32_1 c32_30) Q a σ := id rfl
@[go_sem] theorem c32_32_wp (P : Program) (Q : APost) (a : AFr) (σ : ASt) : c32_32.wp P Q a σ = ACode.wp P (.seq c32_0 c32_31) Q a σ := id rfl
def c32 : AFn := ⟨35, [.t 2, .t 3], c32_32⟩
set_option maxRecDepth 100000 in
theorem c32_ok : compF Tryd.prog Tryd.f32 = some c32 := by kernel_rfl
theorem a32 {args : List AV} {σ : ASt} {R : AV → ASt → Prop} (hl : args.length ≤ 35) (h : c32_32.wp Tryd.prog (RetQ [.t 2, .t 3] R) (init args) σ) : ACalls Tryd.prog 32 args σ R := acalls_of Tryd.func32 c32_ok hl h

/-! 33: tabular/addr.at -/
def c33_0 : ACode := .ops [
    ⟨(some 4), none, .q (.mv (.v (.int .u8 0))), []⟩]
def c33_1 : ACode := .ops [
    ⟨(some 5), none, .q (.mv (.t 1)), []⟩,
    ⟨(some 6), none, .q (.mv (.t 0)), []⟩,
    ⟨(some 7), none, .q (.lenS (.t 6)), []⟩,
    ⟨(some 8), none, .q (.bin .lss (.t 5) (.t 7)), []⟩]
def c33_2 : ACode := .ops [
    ⟨(some 9), none, .q (.mv (.t 0)), []⟩,
    ⟨(some 10), none, .q (.mv (.t 1)), []⟩,
    ⟨(some 11), none, .q (.idx (.t 9) (.t 10)), []⟩,
    ⟨(some 4), none, .q (.mv (.t 11)), []⟩]
def c33_3 : ACode := .seq c33_2 .ret
def c33_4 : ACode := .cond (.t 8) c33_3 .skip
def c33_5 : ACode := .seq c33_1 c33_4
def c33_6 : ACode := .ops [
    ⟨(some 4), none, .q (.mv (.v (.int .u8 0))), []⟩]
def c33_7 : ACode := .seq c33_6 .ret
def c33_8 : ACode := .seq c33_5 c33_7
def c33_9 : ACode := .seq c33_0 c33_8
@[go_sem] theorem c33_0_wp (P : Program) (Q : APost) (a : AFr) (σ : ASt) : c33_0.wp P Q a σ = ACode.wp P (.ops [
    ⟨(some 4), none, .q (.mv (.v (.int .u8 0))), []⟩]) Q a σ := id rfl
@[go_sem] theorem c33_1_wp (P : Program) (Q : APost) (a : AFr) (σ : ASt) : c33_1.wp P Q a σ = ACode.wp P (.ops [
    ⟨(some 5), none, .q (.mv (.t 1)), []⟩,
    ⟨(some 6), none, .q (.mv (.t 0)), []⟩,
    ⟨(some 7), none, .q (.lenS (.t 6)), []⟩,
    ⟨(some 8), none, .q (.bin .lss (.t 5) (.t 7)), []⟩]) Q a σ := id rfl
@[go_sem] theorem c33_2_wp (P : Program) (Q : APost) (a : AFr) (σ : ASt) : c33_2.wp P Q a σ = ACode.wp P (.ops [
    ⟨(some 9), none, .q (.mv (.t 0)), []⟩,
    ⟨(some 10), none, .q (.mv (.t 1)), []⟩,
    ⟨(some 11), none, .q (.idx (.t 9) (.t 10)), []⟩,
    ⟨(some 4), none, .q (.mv (.t 11)), []⟩]) Q a σ := id rfl
@[go_sem] theorem c33_3_wp (P : Program) (Q : APost) (a : AFr) (σ : ASt) : c33_3.wp P Q a σ = ACode.wp P (.seq c33_2 .ret) Q a σ := id rfl
@[go_sem] theorem c33_4_wp (P : Program) (Q : APost) (a : AFr) (σ : ASt) : c33_4.wp P Q a σ = ACode.wp P (.cond (.t 8) c33_3 .skip) Q a σ := id rfl
@[go_sem] theorem c33_5_wp (P : Program) (Q : APost) (a : AFr) (σ : ASt) : c33_5.wp P Q a σ = ACode.wp P (.seq c33_1 c33_4) Q a σ := id rfl
@[go_sem] theorem c33_6_wp (P : Program) (Q : APost) (a : AFr) (σ : ASt) : c33_6.wp P Q a σ = ACode.wp P (.ops [
    ⟨(some 4), none, .q (.mv (.v (.int .u8 0))), []⟩]) Q a σ := id rfl
@[go_sem] theorem c33_7_wp (P : Program) (Q : APost) (a : AFr) (σ : ASt) : c33_7.wp P Q a σ = ACode.wp P (.seq c33_6 .ret) Q a σ := id rfl
@[go_sem] theorem c33_8_wp (P : Program) (Q : APost) (a : AFr) (σ : ASt) : c33_8.wp P Q a σ = ACode.wp P (.seq c33_5 c33_7) Q a σ := id rfl
@[go_sem] theorem c33_9_wp (P : Program) (Q : APost) (a : AFr) (σ : ASt) : c33_9.wp P Q a σ = ACode.wp P (.seq c33_0 c33_8) Q a σ := id rfl
def c33 : AFn := ⟨12, [.t 4], c33_9⟩
set_option maxRecDepth 100000 in
theorem c33_ok : compF Tryd.prog Tryd.f33 = some c33 := by kernel_rfl
theorem a33 {args : List AV} {σ : ASt} {R : AV → ASt → Prop} (hl : args.length ≤ 12) (h : c33_9.wp Tryd.prog (RetQ [.t 4] R) (init args) σ) : ACalls Tryd.prog 33 args σ R := acalls_of Tryd.func33 c33_ok hl h

/-! 42: (tabular/addr.Area).Norm -/
def c42_0 : ACode := .ops [
    ⟨(some 1), none, .e (.box (.t 0)), []⟩,
    ⟨(some 2), none, .e (.alloc [(.int .i64 0), (.int .i64 0), (.bool false), (.bool false), (.int .i64 0), (.int .i64 0), (.bool false), (.bool false)]), []⟩]
def c42_1 : ACode := .ops [
    ⟨(some 3), none, .q (.fa 0 (.t 1)), []⟩,
    ⟨(some 4), none, .q (.fa 0 (.t 3)), []⟩,
    ⟨(some 5), none, .q (.ld none (.t 4)), []⟩,
    ⟨(some 6), none, .q (.fa 4 (.t 1)), []⟩,
    ⟨(some 7), none, .q (.fa 0 (.t 6)), []⟩,
    ⟨(some 8), none, .q (.ld none (.t 7)), []⟩,
    ⟨(some 9), none, .q (.bin .gtr (.t 5) (.t 8)), []⟩]
def c42_2 : ACode := .ops [
    ⟨(some 10), none, .q (.fa 4 (.t 1)), []⟩,
    ⟨(some 11), none, .q (.fa 0 (.t 10)), []⟩,
    ⟨(some 12), none, .q (.ld none (.t 11)), []⟩,
    ⟨(some 13), none, .q (.fa 0 (.t 1)), []⟩,
    ⟨(some 14), none, .q (.fa 0 (.t 13)), []⟩,
    ⟨(some 15), none, .q (.ld none (.t 14)), []⟩,
    ⟨(some 16), none, .q (.fa 0 (.t 1)), []⟩,
    ⟨(some 17), none, .q (.fa 0 (.t 16)), []⟩,
    ⟨none, none, .e (.store 1 (.t 17) (.t 12)), []⟩,
    ⟨(some 18), none, .q (.fa 4 (.t 1)), []⟩,
    ⟨(some 19), none, .q (.fa 0 (.t 18)), []⟩,
    ⟨none, none, .e (.store 1 (.t 19) (.t 15)), []⟩]
def c42_3 : ACode := .ops [
    ⟨(some 20), none, .q (.fa 4 (.t 1)), []⟩,
    ⟨(some 21), none, .q (.fa 2 (.t 20)), []⟩,
    ⟨(some 22), none, .q (.ld none (.t 21)), []⟩,
    ⟨(some 23), none, .q (.fa 0 (.t 1)), []⟩,
    ⟨(some 24), none, .q (.fa 2 (.t 23)), []⟩,
    ⟨(some 25), none, .q (.ld none (.t 24)), []⟩,
    ⟨(some 26), none, .q (.fa 0 (.t 1)), []⟩,
    ⟨(some 27), none, .q (.fa 2 (.t 26)), []⟩,
    ⟨none, none, .e (.store 1 (.t 27) (.t 22)), []⟩,
    ⟨(some 28), none, .q (.fa 4 (.t 1)), []⟩,
    ⟨(some 29), none, .q (.fa 2 (.t 28)), []⟩,
    ⟨none, none, .e (.store 1 (.t 29) (.t 25)), []⟩]
def c42_4 : ACode := .seq c42_2 c42_3
def c42_5 : ACode := .cond (.t 9) c42_4 .skip
def c42_6 : ACode := .seq c42_1 c42_5
def c42_7 : ACode := .ops [
    ⟨(some 30), none, .q (.fa 0 (.t 1)), []⟩,
    ⟨(some 31), none, .q (.fa 1 (.t 30)), []⟩,
    ⟨(some 32), none, .q (.ld none (.t 31)), []⟩,
    ⟨(some 33), none, .q (.fa 4 (.t 1)), []⟩,
    ⟨(some 34), none, .q (.fa 1 (.t 33)), []⟩,
    ⟨(some 35), none, .q (.ld none (.t 34)), []⟩,
    ⟨(some 36), none, .q (.bin .gtr (.t 32) (.t 35)), []⟩]
def c42_8 : ACode := .ops [
    ⟨(some 37), none, .q (.fa 4 (.t 1)), []⟩,
    ⟨(some 38), none, .q (.fa 1 (.t 37)), []⟩,
    ⟨(some 39), none, .q (.ld none (.t 38)), []⟩,
    ⟨(some 40), none, .q (.fa 0 (.t 1)), []⟩,
    ⟨(some 41), none, .q (.fa 1 (.t 40)), []⟩,
    ⟨(some 42), none, .q (.ld none (.t 41)), []⟩,
    ⟨(some 43), none, .q (.fa 0 (.t 1)), []⟩,
    ⟨(some 44), none, .q (.fa 1 (.t 43)), []⟩,
    ⟨none, none, .e (.store 1 (.t 44) (.t 39)), []⟩,
    ⟨(some 45), none, .q (.fa 4 (.t 1)), []⟩,
    ⟨(some 46), none, .q (.fa 1 (.t 45)), []⟩,
    ⟨none, none, .e (.store 1 (.t 46) (.t 42)), []⟩]
def c42_9 : ACode := .ops [
    ⟨(some 47), none, .q (.fa 4 (.t 1)), []⟩,
    ⟨(some 48), none, .q (.fa 3 (.t 47)), []⟩,
    ⟨(some 49), none, .q (.ld none (.t 48)), []⟩,
    ⟨(some 50), none, .q (.fa 0 (.t 1)), []⟩,
    ⟨(some 51), none, .q (.fa 3 (.t 50)), []⟩,
    ⟨(some 52), none, .q (.ld none (.t 51)), []⟩,
    ⟨(some 53), none, .q (.fa 0 (.t 1)), []⟩,
    ⟨(some 54), none, .q (.fa 3 (.t 53)), []⟩,
    ⟨none, none, .e (.store 1 (.t 54) (.t 49)), []⟩,
    ⟨(some 55), none, .q (.fa 4 (.t 1)), []⟩,
    ⟨(some 56), none, .q (.fa 3 (.t 55)), []⟩,
    ⟨none, none, .e (.store 1 (.t 56) (.t 52)), []⟩]
def c42_10 : ACode := .seq c42_8 c42_9
def c42_11 : ACode := .cond (.t 36) c42_10 .skip
def c42_12 : ACode := .seq c42_7 c42_11
def c42_13 : ACode := .ops [
    ⟨(some 57), none, .q (.ld (some 8) (.t 1)), []⟩,
    ⟨none, none, .e (.store 8 (.t 2) (.t 57)), []⟩]
def c42_14 : ACode := .seq c42_13 .ret
def c42_15 : ACode := .seq c42_12 c42_14
def c42_16 : ACode := .seq c42_6 c42_15
def c42_17 : ACode := .seq c42_0 c42_16
@[go_sem] theorem c42_0_wp (P : Program) (Q : APost) (a : AFr) (σ : ASt) : c42_0.wp P Q a σ = ACode.wp P (.ops [
    ⟨(some 1), none, .e (.box (.t 0)), []⟩,
    ⟨(some 2), none, .e (.alloc [(.int .i64 0), (.int .i64 0), (.bool false), (.bool false), (.int .i64 0), (.int .i64 0), (.bool false), (.bool false)]), []⟩]) Q a σ := id rfl
@[go_sem] theorem c42_1_wp (P : Program) (Q : APost) (a : AFr) (σ : ASt) : c42_1.wp P Q a σ = ACode.wp P (.ops [
    ⟨(some 3), none, .q (.fa 0 (.t 1)), []⟩,
    ⟨(some 4), none, .q (.fa 0 (.t 3)), []⟩,
    ⟨(some 5), none, .q (.ld none (.t 4)), []⟩,
    ⟨(some 6), none, .q (.fa 4 (.t 1)), []⟩,
    ⟨(some 7), none, .q (.fa 0 (.t 6)), []⟩,
    ⟨(some 8), none, .q (.ld none (.t 7)), []⟩,
    ⟨(some 9), none, .q (.bin .gtr (.t 5) (.t 8)), []⟩]) Q a σ := id rfl
@[go_sem] theorem c42_2_wp (P : Program) (Q : APost) (a : AFr) (σ : ASt) : c42_2.wp P Q a σ = ACode.wp P (.ops [
    ⟨(some 10), none, .q (.fa 4 (.t 1)), []⟩,
    ⟨(some 11), none, .q (.fa 0 (.t 10)), []⟩,
    ⟨(some 12), none, .q (.ld none (.t 11)), []⟩,
    ⟨(some 13), none, .q (.fa 0 (.t 1)), []⟩,
    ⟨(some 14), none, .q (.fa 0 (.t 13)), []⟩,
    ⟨(some 15), none, .q (.ld none (.t 14)), []⟩,
    ⟨(some 16), none, .q (.fa 0 (.t 1)), []⟩,
    ⟨(some 17), none, .q (.fa 0 (.t 16)), []⟩,
    ⟨none, none, .e (.store 1 (.t 17) (.t 12)), []⟩,
    ⟨(some 18), none, .q (.fa 4 (.t 1)), []⟩,
    ⟨(some 19), none, .q (.fa 0 (.t 18)), []⟩,
    ⟨none, none, .e (.store 1 (.t 19) (.t 15)), []⟩]) Q a σ := id rfl
@[go_sem] theorem c42_3_wp (P : Program) (Q : APost) (a : AFr) (σ : ASt) : c42_3.wp P Q a σ = ACode.wp P (.ops [
    ⟨(some 20), none, .q (.fa 4 (.t 1)), []⟩,
    ⟨(some 21), none, .q (.fa 2 (.t 20)), []⟩,
    ⟨(some 22), none, .q (.ld none (.t 21)), []⟩,
    ⟨(some 23), none, .q (.fa 0 (.t 1)), []⟩,
    ⟨(some 24), none, .q (.fa 2 (.t 23)), []⟩,
    ⟨(some 25), none, .q (.ld none (.t 24)), []⟩,
    ⟨(some 26), none, .q (.fa 0 (.t 1)), []⟩,
    ⟨(some 27), none, .q (.fa 2 (.t 26)), []⟩,
    ⟨none, none, .e (.store 1 (.t 27) (.t 22)), []⟩,
    ⟨(some 28), none, .q (.fa 4 (.t 1)), []⟩,
    ⟨(some 29), none, .q (.fa 2 (.t 28)), []⟩,
    ⟨none, none, .e (.store 1 (.t 29) (.t 25)), []⟩]) Q a σ := id rfl
@[go_sem] theorem c42_4_wp (P : Program) (Q : APost) (a : AFr) (σ : ASt) : c42_4.wp P Q a σ = ACode.wp P (.seq c42_2 c42_3) Q a σ := id rfl
@[go_sem] theorem c42_5_wp (P : Program) (Q : APost) (a : AFr) (σ : ASt) : c42_5.wp P Q a σ = ACode.wp P (.cond (.t 9) c42_4 .skip) Q a σ := id rfl
@[go_sem] theorem c42_6_wp (P : Program) (Q : APost) (a : AFr) (σ : ASt) : c42_6.wp P Q a σ = ACode.wp P (.seq c42_1 c42_5) Q a σ := id rfl
@[go_sem] theorem c42_7_wp (P : Program) (Q : APost) (a : AFr) (σ : ASt) : c42_7.wp P Q a σ = ACode.wp P (.ops [
    ⟨(some 30), none, .q (.fa 0 (.t 1)), []⟩,
    ⟨(some 31), none, .q (.fa 1 (.t 30)), []⟩,
    ⟨(some 32), none, .q (.ld none (.t 31)), []⟩,
    ⟨(some 33), none, .q (.fa 4 (.t 1)), []⟩,
    ⟨(some 34), none, .q (.fa 1 (.t 33)), []⟩,
    ⟨(some 35), none, .q (.ld none (.t 34)), []⟩,
    ⟨(some 36), none, .q (.bin .gtr (.t 32) (.t 35)), []⟩]) Q a σ := id rfl
@[go_sem] theorem c42_8_wp (P : Program) (Q : APost) (a : AFr) (σ : ASt) : c42_8.wp P Q a σ = ACode.wp P (.ops [
    ⟨(some 37), none, .q (.fa 4 (.t 1)), []⟩,
    ⟨(some 38), none, .q (.fa 1 (.t 37)), []⟩,
    ⟨(some 39), none, .q (.ld none (.t 38)), []⟩,
    ⟨(some 40), none, .q (.fa 0 (.t 1)), []⟩,
    ⟨(some 41), none, .q (.fa 1 (.t 40)), []⟩,
    ⟨(some 42), none, .q (.ld none (.t 41)), []⟩,
    ⟨(some 43), none, .q (.fa 0 (.t 1)), []⟩,
    ⟨(some 44), none, .q (.fa 1 (.t 43)), []⟩,
    ⟨none, none, .e (.store 1 (.t 44) (.t 39)), []⟩,
    ⟨(some 45), none, .q (.fa 4 (.t 1)), []⟩,
    ⟨(some 46), none, .q (.fa 1 (.t 45)), []⟩,
    ⟨none, none, .e (.store 1 (.t 46) (.t 42)), []⟩]) Q a σ := id rfl
@[go_sem] theorem c42_9_wp (P : Program) (Q : APost) (a : AFr) (σ : ASt) : c42_9.wp P Q a σ = ACode.wp P (.ops [
    ⟨(some 47), none, .q (.fa 4 (.t 1)), []⟩,
    ⟨(some 48), none, .q (.fa 3 (.t 47)), []⟩,
    ⟨(some 49), none, .q (.ld none (.t 48)), []⟩,
    ⟨(some 50), none, .q (.fa 0 (.t 1)), []⟩,
    ⟨(some 51), none, .q (.fa 3 (.t 50)), []⟩,
    ⟨(some 52), none, .q (.ld none (.t 51)), []⟩,
    ⟨(some 53), none, .q (.fa 0 (.t 1)), []⟩,
    ⟨(some 54), none, .q (.fa 3 (.t 53)), []⟩,
    ⟨none, none, .e (.store 1 (.t 54) (.t 49)), []⟩,
    ⟨(some 55), none, .q (.fa 4 (.t 1)), []⟩,
    ⟨(some 56), none, .q (.fa 3 (.t 55)), []⟩,
    ⟨none, none, .e (.store 1 (.t 56) (.t 52)), []⟩]) Q a σ := id rfl
@[go_sem] theorem c42_10_wp (P : Program) (Q : APost) (a : AFr) (σ : ASt) : c42_10.wp P Q a σ = ACode.wp P (.seq c42_8 c42_9) Q a σ := id rfl
@[go_sem] theorem c42_11_wp (P : Program) (Q : APost) (a : AFr) (σ : ASt) : c42_11.wp P Q a σ = ACode.wp P (.cond (.t 36) c42_10 .skip) Q a σ := id rfl
@[go_sem] theorem c42_12_wp (P : Program) (Q : APost) (a : AFr) (σ : ASt) : c42_12.wp P Q a σ = ACode.wp P (.seq c42_7 c42_11) Q a σ := id rfl
@[go_sem] theorem c42_13_wp (P : Program) (Q : APost) (a : AFr) (σ : ASt) : c42_13.wp P Q a σ = ACode.wp P (.ops [
    ⟨(some 57), none, .q (.ld (some 8) (.t 1)), []⟩,
    ⟨none, none, .e (.store 8 (.t 2) (.t 57)), []⟩]) Q a σ := id rfl
@[go_sem] theorem c42_14_wp (P : Program) (Q : APost) (a : AFr) (σ : ASt) : c42_14.wp P Q a σ = ACode.wp P (.seq c42_13 .ret) Q a σ := id rfl
@[go_sem] theorem c42_15_wp (P : Program) (Q : APost) (a : AFr) (σ : ASt) : c42_15.wp P Q a σ = ACode.wp P (.seq c42_12 c42_14) Q a σ := id rfl
@[go_sem] theorem c42_16_wp (P : Program) (Q : APost) (a : AFr) (σ : ASt) : c42_16.wp P Q a σ = ACode.wp P (.seq c42_6 c42_15) Q a σ := id rfl
@[go_sem] theorem c42_17_wp (P : Program) (Q : APost) (a : AFr) (σ : ASt) : c42_17.wp P Q a σ = ACode.wp P (.seq c42_0 c42_16) Q a σ := id rfl
def c42 : AFn := ⟨58, [.c 2 (some 8)], c42_17⟩
set_option maxRecDepth 100000 in
theorem c42_ok : compF Tryd.prog Tryd.f42 = some c42 := by kernel_rfl
theorem a42 {args : List AV} {σ : ASt} {R : AV → ASt → Prop} (hl : args.length ≤ 58) (h : c42_17.wp Tryd.prog (RetQ [.c 2 (some 8)] R) (init args) σ) : ACalls Tryd.prog 42 args σ R := acalls_of Tryd.func42 c42_ok hl h

/-! 75: internal/strconv.formatBase10 -/
def c75_0 : ACode := .ops [
    ⟨(some 17), none, .q (.mv (.t 0)), []⟩,
    ⟨(some 18), none, .q (.len (.t 17)), []⟩,
    ⟨(some 4), none, .q (.mv (.t 18)), []⟩]
def c75_1 : ACode := .ops [
    ⟨(some 19), none, .q (.mv (.t 4)), []⟩,
    ⟨(some 20), none, .q (.bin .geq (.t 19) (.v (.int .i64 8))), []⟩]
def c75_2 : ACode := .cond (.t 20) .skip (.exit 0)
def c75_3 : ACode := .seq c75_1 c75_2
def c75_4 : ACode := .ops [
    ⟨(some 21), none, .q (.mv (.t 1)), []⟩,
    ⟨(some 22), none, .q (.bin .rem (.t 21) (.v (.int .u64 100000000))), []⟩,
    ⟨(some 23), none, .q (.conv .u32 (.t 22)), []⟩,
    ⟨(some 5), none, .q (.mv (.t 23)), []⟩]
def c75_5 : ACode := .ops [
    ⟨(some 24), none, .q (.mv (.t 1)), []⟩,
    ⟨(some 25), none, .q (.bin .quo (.t 24) (.v (.int .u64 100000000))), []⟩,
    ⟨(some 1), none, .q (.mv (.t 25)), []⟩]
def c75_6 : ACode := .ops [
    ⟨(some 26), none, .q (.mv (.t 5)), []⟩,
    ⟨(some 27), none, .q (.bin .quo (.t 26) (.v (.int .u32 10000))), []⟩,
    ⟨(some 28), none, .q (.mv (.t 5)), []⟩,
    ⟨(some 29), none, .q (.bin .rem (.t 28) (.v (.int .u32 10000))), []⟩,
    ⟨(some 6), none, .q (.mv (.t 27)), []⟩,
    ⟨(some 7), none, .q (.mv (.t 29)), []⟩]
def c75_7 : ACode := .ops [
    ⟨(some 30), none, .q (.mv (.t 7)), []⟩,
    ⟨(some 31), none, .q (.bin .quo (.t 30) (.v (.int .u32 100))), []⟩,
    ⟨(some 32), none, .q (.bin .mul (.t 31) (.v (.int .u32 2))), []⟩,
    ⟨(some 33), none, .q (.mv (.t 7)), []⟩,
    ⟨(some 34), none, .q (.bin .rem (.t 33) (.v (.int .u32 100))), []⟩,
    ⟨(some 35), none, .q (.bin .mul (.t 34) (.v (.int .u32 2))), []⟩,
    ⟨(some 8), none, .q (.mv (.t 32)), []⟩,
    ⟨(some 9), none, .q (.mv (.t 35)), []⟩]
def c75_8 : ACode := .ops [
    ⟨(some 36), none, .q (.mv (.t 6)), []⟩,
    ⟨(some 37), none, .q (.bin .quo (.t 36) (.v (.int .u32 100))), []⟩,
    ⟨(some 38), none, .q (.bin .mul (.t 37) (.v (.int .u32 2))), []⟩,
    ⟨(some 39), none, .q (.mv (.t 6)), []⟩,
    ⟨(some 40), none, .q (.bin .rem (.t 39) (.v (.int .u32 100))), []⟩,
    ⟨(some 41), none, .q (.bin .mul (.t 40) (.v (.int .u32 2))), []⟩,
    ⟨(some 10), none, .q (.mv (.t 38)), []⟩,
    ⟨(some 11), none, .q (.mv (.t 41)), []⟩]
def c75_9 : ACode := .ops [
    ⟨(some 42), none, .q (.mv (.t 0)), []⟩,
    ⟨(some 43), none, .q (.mv (.t 4)), []⟩,
    ⟨(some 44), none, .q (.bin .sub (.t 43) (.v (.int .i64 1))), []⟩,
    ⟨(some 45), none, .q (.mv (.t 0)), []⟩,
    ⟨(some 46), none, .q (.mv (.t 4)), []⟩,
    ⟨(some 47), none, .q (.bin .sub (.t 46) (.v (.int .i64 2))), []⟩,
    ⟨(some 48), none, .q (.mv (.t 9)), []⟩,
    ⟨(some 49), none, .q (.bin .add (.t 48) (.v (.int .u32 1))), []⟩,
    ⟨(some 50), none, .q (.idx (.v (.str [48, 48, 48, 49, 48, 50, 48, 51, 48, 52, 48, 53, 48, 54, 48, 55, 48, 56, 48, 57, 49, 48, 49, 49, 49, 50, 49, 51, 49, 52, 49, 53, 49, 54, 49, 55, 49, 56, 49, 57, 50, 48, 50, 49, 50, 50, 50, 51, 50, 52, 50, 53, 50, 54, 50, 55, 50, 56, 50, 57, 51, 48, 51, 49, 51, 50, 51, 51, 51, 52, 51, 53, 51, 54, 51, 55, 51, 56, 51, 57, 52, 48, 52, 49, 52, 50, 52, 51, 52, 52, 52, 53, 52, 54, 52, 55, 52, 56, 52, 57, 53, 48, 53, 49, 53, 50, 53, 51, 53, 52, 53, 53, 53, 54, 53, 55, 53, 56, 53, 57, 54, 48, 54, 49, 54, 50, 54, 51, 54, 52, 54, 53, 54, 54, 54, 55, 54, 56, 54, 57, 55, 48, 55, 49, 55, 50, 55, 51, 55, 52, 55, 53, 55, 54, 55, 55, 55, 56, 55, 57, 56, 48, 56, 49, 56, 50, 56, 51, 56, 52, 56, 53, 56, 54, 56, 55, 56, 56, 56, 57, 57, 48, 57, 49, 57, 50, 57, 51, 57, 52, 57, 53, 57, 54, 57, 55, 57, 56, 57, 57])) (.t 49)), []⟩,
    ⟨(some 51), none, .q (.mv (.t 9)), []⟩,
    ⟨(some 52), none, .q (.idx (.v (.str [48, 48, 48, 49, 48, 50, 48, 51, 48, 52, 48, 53, 48, 54, 48, 55, 48, 56, 48, 57, 49, 48, 49, 49, 49, 50, 49, 51, 49, 52, 49, 53, 49, 54, 49, 55, 49, 56, 49, 57, 50, 48, 50, 49, 50, 50, 50, 51, 50, 52, 50, 53, 50, 54, 50, 55, 50, 56, 50, 57, 51, 48, 51, 49, 51, 50, 51, 51, 51, 52, 51, 53, 51, 54, 51, 55, 51, 56, 51, 57, 52, 48, 52, 49, 52, 50, 52, 51, 52, 52, 52, 53, 52, 54, 52, 55, 52, 56, 52, 57, 53, 48, 53, 49, 53, 50, 53, 51, 53, 52, 53, 53, 53, 54, 53, 55, 53, 56, 53, 57, 54, 48, 54, 49, 54, 50, 54, 51, 54, 52, 54, 53, 54, 54, 54, 55, 54, 56, 54, 57, 55, 48, 55, 49, 55, 50, 55, 51, 55, 52, 55, 53, 55, 54, 55, 55, 55, 56, 55, 57, 56, 48, 56, 49, 56, 50, 56, 51, 56, 52, 56, 53, 56, 54, 56, 55, 56, 56, 56, 57, 57, 48, 57, 49, 57, 50, 57, 51, 57, 52, 57, 53, 57, 54, 57, 55, 57, 56, 57, 57])) (.t 51)), []⟩,
    ⟨(some 53), none, .q (.ia 1 (.t 42) (.t 44)), []⟩,
    ⟨none, none, .e (.store 1 (.t 53) (.t 50)), []⟩,
    ⟨(some 54), none, .q (.ia 1 (.t 45) (.t 47)), []⟩,
    ⟨none, none, .e (.store 1 (.t 54) (.t 52)), []⟩]
def c75_10 : ACode := .ops [
    ⟨(some 55), none, .q (.mv (.t 0)), []⟩,
    ⟨(some 56), none, .q (.mv (.t 4)), []⟩,
    ⟨(some 57), none, .q (.bin .sub (.t 56) (.v (.int .i64 3))), []⟩,
    ⟨(some 58), none, .q (.mv (.t 0)), []⟩,
    ⟨(some 59), none, .q (.mv (.t 4)), []⟩,
    ⟨(some 60), none, .q (.bin .sub (.t 59) (.v (.int .i64 4))), []⟩,
    ⟨(some 61), none, .q (.mv (.t 8)), []⟩,
    ⟨(some 62), none, .q (.bin .add (.t 61) (.v (.int .u32 1))), []⟩,
    ⟨(some 63), none, .q (.idx (.v (.str [48, 48, 48, 49, 48, 50, 48, 51, 48, 52, 48, 53, 48, 54, 48, 55, 48, 56, 48, 57, 49, 48, 49, 49, 49, 50, 49, 51, 49, 52, 49, 53, 49, 54, 49, 55, 49, 56, 49, 57, 50, 48, 50, 49, 50, 50, 50, 51, 50, 52, 50, 53, 50, 54, 50, 55, 50, 56, 50, 57, 51, 48, 51, 49, 51, 50, 51, 51, 51, 52, 51, 53, 51, 54, 51, 55, 51, 56, 51, 57, 52, 48, 52, 49, 52, 50, 52, 51, 52, 52, 52, 53, 52, 54, 52, 55, 52, 56, 52, 57, 53, 48, 53, 49, 53, 50, 53, 51, 53, 52, 53, 53, 53, 54, 53, 55, 53, 56, 53, 57, 54, 48, 54, 49, 54, 50, 54, 51, 54, 52, 54, 53, 54, 54, 54, 55, 54, 56, 54, 57, 55, 48, 55, 49, 55, 50, 55, 51, 55, 52, 55, 53, 55, 54, 55, 55, 55, 56, 55, 57, 56, 48, 56, 49, 56, 50, 56, 51, 56, 52, 56, 53, 56, 54, 56, 55, 56, 56, 56, 57, 57, 48, 57, 49, 57, 50, 57, 51, 57, 52, 57, 53, 57, 54, 57, 55, 57, 56, 57, 57])) (.t 62)), []⟩,
    ⟨(some 64), none, .q (.mv (.t 8)), []⟩,
    ⟨(some 65), none, .q (.idx (.v (.str [48, 48, 48, 49, 48, 50, 48, 51, 48, 52, 48, 53, 48, 54, 48, 55, 48, 56, 48, 57, 49, 48, 49, 49, 49, 50, 49, 51, 49, 52, 49, 53, 49, 54, 49, 55, 49, 56, 49, 57, 50, 48, 50, 49, 50, 50, 50, 51, 50, 52, 50, 53, 50, 54, 50, 55, 50, 56, 50, 57, 51, 48, 51, 49, 51, 50, 51, 51, 51, 52, 51, 53, 51, 54, 51, 55, 51, 56, 51, 57, 52, 48, 52, 49, 52, 50, 52, 51, 52, 52, 52, 53, 52, 54, 52, 55, 52, 56, 52, 57, 53, 48, 53, 49, 53, 50, 53, 51, 53, 52, 53, 53, 53, 54, 53, 55, 53, 56, 53, 57, 54, 48, 54, 49, 54, 50, 54, 51, 54, 52, 54, 53, 54, 54, 54, 55, 54, 56, 54, 57, 55, 48, 55, 49, 55, 50, 55, 51, 55, 52, 55, 53, 55, 54, 55, 55, 55, 56, 55, 57, 56, 48, 56, 49, 56, 50, 56, 51, 56, 52, 56, 53, 56, 54, 56, 55, 56, 56, 56, 57, 57, 48, 57, 49, 57, 50, 57, 51, 57, 52, 57, 53, 57, 54, 57, 55, 57, 56, 57, 57])) (.t 64)), []⟩,
    ⟨(some 66), none, .q (.ia 1 (.t 55) (.t 57)), []⟩,
    ⟨none, none, .e (.store 1 (.t 66) (.t 63)), []⟩,
    ⟨(some 67), none, .q (.ia 1 (.t 58) (.t 60)), []⟩,
    ⟨none, none, .e (.store 1 (.t 67) (.t 65)), []⟩]
def c75_11 : ACode := .ops [
    ⟨(some 68), none, .q (.mv (.t 0)), []⟩,
    ⟨(some 69), none, .q (.mv (.t 4)), []⟩,
    ⟨(some 70), none, .q (.bin .sub (.t 69) (.v (.int .i64 5))), []⟩,
    ⟨(some 71), none, .q (.mv (.t 0)), []⟩,
    ⟨(some 72), none, .q (.mv (.t 4)), []⟩,
    ⟨(some 73), none, .q (.bin .sub (.t 72) (.v (.int .i64 6))), []⟩,
    ⟨(some 74), none, .q (.mv (.t 11)), []⟩,
    ⟨(some 75), none, .q (.bin .add (.t 74) (.v (.int .u32 1))), []⟩,
    ⟨(some 76), none, .q (.idx (.v (.str [48, 48, 48, 49, 48, 50, 48, 51, 48, 52, 48, 53, 48, 54, 48, 55, 48, 56, 48, 57, 49, 48, 49, 49, 49, 50, 49, 51, 49, 52, 49, 53, 49, 54, 49, 55, 49, 56, 49, 57, 50, 48, 50, 49, 50, 50, 50, 51, 50, 52, 50, 53, 50, 54, 50, 55, 50, 56, 50, 57, 51, 48, 51, 49, 51, 50, 51, 51, 51, 52, 51, 53, 51, 54, 51, 55, 51, 56, 51, 57, 52, 48, 52, 49, 52, 50, 52, 51, 52, 52, 52, 53, 52, 54, 52, 55, 52, 56, 52, 57, 53, 48, 53, 49, 53, 50, 53, 51, 53, 52, 53, 53, 53, 54, 53, 55, 53, 56, 53, 57, 54, 48, 54, 49, 54, 50, 54, 51, 54, 52, 54, 53, 54, 54, 54, 55, 54, 56, 54, 57, 55, 48, 55, 49, 55, 50, 55, 51, 55, 52, 55, 53, 55, 54, 55, 55, 55, 56, 55, 57, 56, 48, 56, 49, 56, 50, 56, 51, 56, 52, 56, 53, 56, 54, 56, 55, 56, 56, 56, 57, 57, 48, 57, 49, 57, 50, 57, 51, 57, 52, 57, 53, 57, 54, 57, 55, 57, 56, 57, 57])) (.t 75)), []⟩,
    ⟨(some 77), none, .q (.mv (.t 11)), []⟩,
    ⟨(some 78), none, .q (.idx (.v (.str [48, 48, 48, 49, 48, 50, 48, 51, 48, 52, 48, 53, 48, 54, 48, 55, 48, 56, 48, 57, 49, 48, 49, 49, 49, 50, 49, 51, 49, 52, 49, 53, 49, 54, 49, 55, 49, 56, 49, 57, 50, 48, 50, 49, 50, 50, 50, 51, 50, 52, 50, 53, 50, 54, 50, 55, 50, 56, 50, 57, 51, 48, 51, 49, 51, 50, 51, 51, 51, 52, 51, 53, 51, 54, 51, 55, 51, 56, 51, 57, 52, 48, 52, 49, 52, 50, 52, 51, 52, 52, 52, 53, 52, 54, 52, 55, 52, 56, 52, 57, 53, 48, 53, 49, 53, 50, 53, 51, 53, 52, 53, 53, 53, 54, 53, 55, 53, 56, 53, 57, 54, 48, 54, 49, 54, 50, 54, 51, 54, 52, 54, 53, 54, 54, 54, 55, 54, 56, 54, 57, 55, 48, 55, 49, 55, 50, 55, 51, 55, 52, 55, 53, 55, 54, 55, 55, 55, 56, 55, 57, 56, 48, 56, 49, 56, 50, 56, 51, 56, 52, 56, 53, 56, 54, 56, 55, 56, 56, 56, 57, 57, 48, 57, 49, 57, 50, 57, 51, 57, 52, 57, 53, 57, 54, 57, 55, 57, 56, 57, 57])) (.t 77)), []⟩,
    ⟨(some 79), none, .q (.ia 1 (.t 68) (.t 70)), []⟩,
    ⟨none, none, .e (.store 1 (.t 79) (.t 76)), []⟩,
    ⟨(some 80), none, .q (.ia 1 (.t 71) (.t 73)), []⟩,
    ⟨none, none, .e (.store 1 (.t 80) (.t 78)), []⟩]
def c75_12 : ACode := .ops [
    ⟨(some 81), none, .q (.mv (.t 0)), []⟩,
    ⟨(some 82), none, .q (.mv (.t 4)), []⟩,
    ⟨(some 83), none, .q (.bin .sub (.t 82) (.v (.int .i64 7))), []⟩,
    ⟨(some 84), none, .q (.mv (.t 0)), []⟩,
    ⟨(some 85), none, .q (.mv (.t 4)), []⟩,
    ⟨(some 86), none, .q (.bin .sub (.t 85) (.v (.int .i64 8))), []⟩,
    ⟨(some 87), none, .q (.mv (.t 10)), []⟩,
    ⟨(some 88), none, .q (.bin .add (.t 87) (.v (.int .u32 1))), []⟩,
    ⟨(some 89), none, .q (.idx (.v (.str [48, 48, 48, 49, 48, 50, 48, 51, 48, 52, 48, 53, 48, 54, 48, 55, 48, 56, 48, 57, 49, 48, 49, 49, 49, 50, 49, 51, 49, 52, 49, 53, 49, 54, 49, 55, 49, 56, 49, 57, 50, 48, 50, 49, 50, 50, 50, 51, 50, 52, 50, 53, 50, 54, 50, 55, 50, 56, 50, 57, 51, 48, 51, 49, 51, 50, 51, 51, 51, 52, 51, 53, 51, 54, 51, 55, 51, 56, 51, 57, 52, 48, 52, 49, 52, 50, 52, 51, 52, 52, 52, 53, 52, 54, 52, 55, 52, 56, 52, 57, 53, 48, 53, 49, 53, 50, 53, 51, 53, 52, 53, 53, 53, 54, 53, 55, 53, 56, 53, 57, 54, 48, 54, 49, 54, 50, 54, 51, 54, 52, 54, 53, 54, 54, 54, 55, 54, 56, 54, 57, 55, 48, 55, 49, 55, 50, 55, 51, 55, 52, 55, 53, 55, 54, 55, 55, 55, 56, 55, 57, 56, 48, 56, 49, 56, 50, 56, 51, 56, 52, 56, 53, 56, 54, 56, 55, 56, 56, 56, 57, 57, 48, 57, 49, 57, 50, 57, 51, 57, 52, 57, 53, 57, 54, 57, 55, 57, 56, 57, 57])) (.t 88)), []⟩,
    ⟨(some 90), none, .q (.mv (.t 10)), []⟩,
    ⟨(some 91), none, .q (.idx (.v (.str [48, 48, 48, 49, 48, 50, 48, 51, 48, 52, 48, 53, 48, 54, 48, 55, 48, 56, 48, 57, 49, 48, 49, 49, 49, 50, 49, 51, 49, 52, 49, 53, 49, 54, 49, 55, 49, 56, 49, 57, 50, 48, 50, 49, 50, 50, 50, 51, 50, 52, 50, 53, 50, 54, 50, 55, 50, 56, 50, 57, 51, 48, 51, 49, 51, 50, 51, 51, 51, 52, 51, 53, 51, 54, 51, 55, 51, 56, 51, 57, 52, 48, 52, 49, 52, 50, 52, 51, 52, 52, 52, 53, 52, 54, 52, 55, 52, 56, 52, 57, 53, 48, 53, 49, 53, 50, 53, 51, 53, 52, 53, 53, 53, 54, 53, 55, 53, 56, 53, 57, 54, 48, 54, 49, 54, 50, 54, 51, 54, 52, 54, 53, 54, 54, 54, 55, 54, 56, 54, 57, 55, 48, 55, 49, 55, 50, 55, 51, 55, 52, 55, 53, 55, 54, 55, 55, 55, 56, 55, 57, 56, 48, 56, 49, 56, 50, 56, 51, 56, 52, 56, 53, 56, 54, 56, 55, 56, 56, 56, 57, 57, 48, 57, 49, 57, 50, 57, 51, 57, 52, 57, 53, 57, 54, 57, 55, 57, 56, 57, 57])) (.t 90)), []⟩,
    ⟨(some 92), none, .q (.ia 1 (.t 81) (.t 83)), []⟩,
    ⟨none, none, .e (.store 1 (.t 92) (.t 89)), []⟩,
    ⟨(some 93), none, .q (.ia 1 (.t 84) (.t 86)), []⟩,
    ⟨none, none, .e (.store 1 (.t 93) (.t 91)), []⟩]
def c75_13 : ACode := .ops [
    ⟨(some 94), none, .q (.mv (.t 4)), []⟩,
    ⟨(some 95), none, .q (.bin .sub (.t 94) (.v (.int .i64 8))), []⟩,
    ⟨(some 4), none, .q (.mv (.t 95)), []⟩]
def c75_14 : ACode := .seq c75_12 c75_13
def c75_15 : ACode := .seq c75_11 c75_14
def c75_16 : ACode := .seq c75_10 c75_15
def c75_17 : ACode := .seq c75_9 c75_16
def c75_18 : ACode := .seq c75_8 c75_17
def c75_19 : ACode := .seq c75_7 c75_18
def c75_20 : ACode := .seq c75_6 c75_19
def c75_21 : ACode := .seq c75_5 c75_20
def c75_22 : ACode := .seq c75_4 c75_21
def c75_23 : ACode := .block 1 c75_22
def c75_24 : ACode := .seq c75_3 c75_23
def c75_25 : ACode := .loop c75_24
def c75_26 : ACode := .block 0 c75_25
def c75_27 : ACode := .ops [
    ⟨(some 96), none, .q (.mv (.t 1)), []⟩,
    ⟨(some 97), none, .q (.conv .u32 (.t 96)), []⟩,
    ⟨(some 12), none, .q (.mv (.t 97)), []⟩]
def c75_28 : ACode := .ops [
    ⟨(some 98), none, .q (.mv (.t 4)), []⟩,
    ⟨(some 99), none, .q (.bin .geq (.t 98) (.v (.int .i64 4))), []⟩]
def c75_29 : ACode := .ops [
    ⟨(some 100), none, .q (.mv (.t 12)), []⟩,
    ⟨(some 101), none, .q (.bin .rem (.t 100) (.v (.int .u32 10000))), []⟩,
    ⟨(some 13), none, .q (.mv (.t 101)), []⟩]
def c75_30 : ACode := .ops [
    ⟨(some 102), none, .q (.mv (.t 12)), []⟩,
    ⟨(some 103), none, .q (.bin .quo (.t 102) (.v (.int .u32 10000))), []⟩,
    ⟨(some 12), none, .q (.mv (.t 103)), []⟩]
def c75_31 : ACode := .ops [
    ⟨(some 104), none, .q (.mv (.t 13)), []⟩,
    ⟨(some 105), none, .q (.bin .quo (.t 104) (.v (.int .u32 100))), []⟩,
    ⟨(some 106), none, .q (.bin .mul (.t 105) (.v (.int .u32 2))), []⟩,
    ⟨(some 107), none, .q (.mv (.t 13)), []⟩,
    ⟨(some 108), none, .q (.bin .rem (.t 107) (.v (.int .u32 100))), []⟩,
    ⟨(some 109), none, .q (.bin .mul (.t 108) (.v (.int .u32 2))), []⟩,
    ⟨(some 14), none, .q (.mv (.t 106)), []⟩,
    ⟨(some 15), none, .q (.mv (.t 109)), []⟩]
def c75_32 : ACode := .ops [
    ⟨(some 110), none, .q (.mv (.t 0)), []⟩,
    ⟨(some 111), none, .q (.mv (.t 4)), []⟩,
    ⟨(some 112), none, .q (.bin .sub (.t 111) (.v (.int .i64 1))), []⟩,
    ⟨(some 113), none, .q (.mv (.t 0)), []⟩,
    ⟨(some 114), none, .q (.mv (.t 4)), []⟩,
    ⟨(some 115), none, .q (.bin .sub (.t 114) (.v (.int .i64 2))), []⟩,
    ⟨(some 116), none, .q (.mv (.t 15)), []⟩,
    ⟨(some 117), none, .q (.bin .add (.t 116) (.v (.int .u32 1))), []⟩,
    ⟨(some 118), none, .q (.idx (.v (.str [48, 48, 48, 49, 48, 50, 48, 51, 48, 52, 48, 53, 48, 54, 48, 55, 48, 56, 48, 57, 49, 48, 49, 49, 49, 50, 49, 51, 49, 52, 49, 53, 49, 54, 49, 55, 49, 56, 49, 57, 50, 48, 50, 49, 50, 50, 50, 51, 50, 52, 50, 53, 50, 54, 50, 55, 50, 56, 50, 57, 51, 48, 51, 49, 51, 50, 51, 51, 51, 52, 51, 53, 51, 54, 51, 55, 51, 56, 51, 57, 52, 48, 52, 49, 52, 50, 52, 51, 52, 52, 52, 53, 52, 54, 52, 55, 52, 56, 52, 57, 53, 48, 53, 49, 53, 50, 53, 51, 53, 52, 53, 53, 53, 54, 53, 55, 53, 56, 53, 57, 54, 48, 54, 49, 54, 50, 54, 51, 54, 52, 54, 53, 54, 54, 54, 55, 54, 56, 54, 57, 55, 48, 55, 49, 55, 50, 55, 51, 55, 52, 55, 53, 55, 54, 55, 55, 55, 56, 55, 57, 56, 48, 56, 49, 56, 50, 56, 51, 56, 52, 56, 53, 56, 54, 56, 55, 56, 56, 56, 57, 57, 48, 57, 49, 57, 50, 57, 51, 57, 52, 57, 53, 57, 54, 57, 55, 57, 56, 57, 57])) (.t 117)), []⟩,
    ⟨(some 119), none, .q (.mv (.t 15)), []⟩,
    ⟨(some 120), none, .q (.idx (.v (.str [48, 48, 48, 49, 48, 50, 48, 51, 48, 52, 48, 53, 48, 54, 48, 55, 48, 56, 48, 57, 49, 48, 49, 49, 49, 50, 49, 51, 49, 52, 49, 53, 49, 54, 49, 55, 49, 56, 49, 57, 50, 48, 50, 49, 50, 50, 50, 51, 50, 52, 50, 53, 50, 54, 50, 55, 50, 56, 50, 57, 51, 48, 51, 49, 51, 50, 51, 51, 51, 52, 51, 53, 51, 54, 51, 55, 51, 56, 51, 57, 52, 48, 52, 49, 52, 50, 52, 51, 52, 52, 52, 53, 52, 54, 52, 55, 52, 56, 52, 57, 53, 48, 53, 49, 53, 50, 53, 51, 53, 52, 53, 53, 53, 54, 53, 55, 53, 56, 53, 57, 54, 48, 54, 49, 54, 50, 54, 51, 54, 52, 54, 53, 54, 54, 54, 55, 54, 56, 54, 57, 55, 48, 55, 49, 55, 50, 55, 51, 55, 52, 55, 53, 55, 54, 55, 55, 55, 56, 55, 57, 56, 48, 56, 49, 56, 50, 56, 51, 56, 52, 56, 53, 56, 54, 56, 55, 56, 56, 56, 57, 57, 48, 57, 49, 57, 50, 57, 51, 57, 52, 57, 53, 57, 54, 57, 55, 57, 56, 57, 57])) (.t 119)), []⟩,
    ⟨(some 121), none, .q (.ia 1 (.t 110) (.t 112)), []⟩,
    ⟨none, none, .e (.store 1 (.t 121) (.t 118)), []⟩,
    ⟨(some 122), none, .q (.ia 1 (.t 113) (.t 115)), []⟩,
    ⟨none, none, .e (.store 1 (.t 122) (.t 120)), []⟩]
def c75_33 : ACode := .ops [
    ⟨(some 123), none, .q (.mv (.t 0)), []⟩,
    ⟨(some 124), none, .q (.mv (.t 4)), []⟩,
    ⟨(some 125), none, .q (.bin .sub (.t 124) (.v (.int .i64 3))), []⟩,
    ⟨(some 126), none, .q (.mv (.t 0)), []⟩,
    ⟨(some 127), none, .q (.mv (.t 4)), []⟩,
    ⟨(some 128), none, .q (.bin .sub (.t 127) (.v (.int .i64 4))), []⟩,
    ⟨(some 129), none, .q (.mv (.t 14)), []⟩,
    ⟨(some 130), none, .q (.bin .add (.t 129) (.v (.int .u32 1))), []⟩,
    ⟨(some 131), none, .q (.idx (.v (.str [48, 48, 48, 49, 48, 50, 48, 51, 48, 52, 48, 53, 48, 54, 48, 55, 48, 56, 48, 57, 49, 48, 49, 49, 49, 50, 49, 51, 49, 52, 49, 53, 49, 54, 49, 55, 49, 56, 49, 57, 50, 48, 50, 49, 50, 50, 50, 51, 50, 52, 50, 53, 50, 54, 50, 55, 50, 56, 50, 57, 51, 48, 51, 49, 51, 50, 51, 51, 51, 52, 51, 53, 51, 54, 51, 55, 51, 56, 51, 57, 52, 48, 52, 49, 52, 50, 52, 51, 52, 52, 52, 53, 52, 54, 52, 55, 52, 56, 52, 57, 53, 48, 53, 49, 53, 50, 53, 51, 53, 52, 53, 53, 53, 54, 53, 55, 53, 56, 53, 57, 54, 48, 54, 49, 54, 50, 54, 51, 54, 52, 54, 53, 54, 54, 54, 55, 54, 56, 54, 57, 55, 48, 55, 49, 55, 50, 55, 51, 55, 52, 55, 53, 55, 54, 55, 55, 55, 56, 55, 57, 56, 48, 56, 49, 56, 50, 56, 51, 56, 52, 56, 53, 56, 54, 56, 55, 56, 56, 56, 57, 57, 48, 57, 49, 57, 50, 57, 51, 57, 52, 57, 53, 57, 54, 57, 55, 57, 56, 57, 57])) (.t 130)), []⟩,
    ⟨(some 132), none, .q (.mv (.t 14)), []⟩,
    ⟨(some 133), none, .q (.idx (.v (.str [48, 48, 48, 49, 48, 50, 48, 51, 48, 52, 48, 53, 48, 54, 48, 55, 48, 56, 48, 57, 49, 48, 49, 49, 49, 50, 49, 51, 49, 52, 49, 53, 49, 54, 49, 55, 49, 56, 49, 57, 50, 48, 50, 49, 50, 50, 50, 51, 50, 52, 50, 53, 50, 54, 50, 55, 50, 56, 50, 57, 51, 48, 51, 49, 51, 50, 51, 51, 51, 52, 51, 53, 51, 54, 51, 55, 51, 56, 51, 57, 52, 48, 52, 49, 52, 50, 52, 51, 52, 52, 52, 53, 52, 54, 52, 55, 52, 56, 52, 57, 53, 48, 53, 49, 53, 50, 53, 51, 53, 52, 53, 53, 53, 54, 53, 55, 53, 56, 53, 57, 54, 48, 54, 49, 54, 50, 54, 51, 54, 52, 54, 53, 54, 54, 54, 55, 54, 56, 54, 57, 55, 48, 55, 49, 55, 50, 55, 51, 55, 52, 55, 53, 55, 54, 55, 55, 55, 56, 55, 57, 56, 48, 56, 49, 56, 50, 56, 51, 56, 52, 56, 53, 56, 54, 56, 55, 56, 56, 56, 57, 57, 48, 57, 49, 57, 50, 57, 51, 57, 52, 57, 53, 57, 54, 57, 55, 57, 56, 57, 57])) (.t 132)), []⟩,
    ⟨(some 134), none, .q (.ia 1 (.t 123) (.t 125)), []⟩,
    ⟨none, none, .e (.store 1 (.t 134) (.t 131)), []⟩,
    ⟨(some 135), none, .q (.ia 1 (.t 126) (.t 128)), []⟩,
    ⟨none, none, .e (.store 1 (.t 135) (.t 133)), []⟩]
def c75_34 : ACode := .ops [
    ⟨(some 136), none, .q (.mv (.t 4)), []⟩,
    ⟨(some 137), none, .q (.bin .sub (.t 136) (.v (.int .i64 4))), []⟩,
    ⟨(some 4), none, .q (.mv (.t 137)), []⟩]
def c75_35 : ACode := .seq c75_33 c75_34
def c75_36 : ACode := .seq c75_32 c75_35
def c75_37 : ACode := .seq c75_31 c75_36
def c75_38 : ACode := .seq c75_30 c75_37
def c75_39 : ACode := .seq c75_29 c75_38
def c75_40 : ACode := .cond (.t 99) c75_39 .skip
def c75_41 : ACode := .seq c75_28 c75_40
def c75_42 : ACode := .ops [
    ⟨(some 138), none, .q (.mv (.t 4)), []⟩,
    ⟨(some 139), none, .q (.bin .geq (.t 138) (.v (.int .i64 2))), []⟩]
def c75_43 : ACode := .ops [
    ⟨(some 140), none, .q (.mv (.t 12)), []⟩,
    ⟨(some 141), none, .q (.bin .rem (.t 140) (.v (.int .u32 100))), []⟩,
    ⟨(some 142), none, .q (.bin .mul (.t 141) (.v (.int .u32 2))), []⟩,
    ⟨(some 16), none, .q (.mv (.t 142)), []⟩]
def c75_44 : ACode := .ops [
    ⟨(some 143), none, .q (.mv (.t 12)), []⟩,
    ⟨(some 144), none, .q (.bin .quo (.t 143) (.v (.int .u32 100))), []⟩,
    ⟨(some 12), none, .q (.mv (.t 144)), []⟩]
def c75_45 : ACode := .ops [
    ⟨(some 145), none, .q (.mv (.t 0)), []⟩,
    ⟨(some 146), none, .q (.mv (.t 4)), []⟩,
    ⟨(some 147), none, .q (.bin .sub (.t 146) (.v (.int .i64 1))), []⟩,
    ⟨(some 148), none, .q (.mv (.t 0)), []⟩,
    ⟨(some 149), none, .q (.mv (.t 4)), []⟩,
    ⟨(some 150), none, .q (.bin .sub (.t 149) (.v (.int .i64 2))), []⟩,
    ⟨(some 151), none, .q (.mv (.t 16)), []⟩,
    ⟨(some 152), none, .q (.bin .add (.t 151) (.v (.int .u32 1))), []⟩,
    ⟨(some 153), none, .q (.idx (.v (.str [48, 48, 48, 49, 48, 50, 48, 51, 48, 52, 48, 53, 48, 54, 48, 55, 48, 56, 48, 57, 49, 48, 49, 49, 49, 50, 49, 51, 49, 52, 49, 53, 49, 54, 49, 55, 49, 56, 49, 57, 50, 48, 50, 49, 50, 50, 50, 51, 50, 52, 50, 53, 50, 54, 50, 55, 50, 56, 50, 57, 51, 48, 51, 49, 51, 50, 51, 51, 51, 52, 51, 53, 51, 54, 51, 55, 51, 56, 51, 57, 52, 48, 52, 49, 52, 50, 52, 51, 52, 52, 52, 53, 52, 54, 52, 55, 52, 56, 52, 57, 53, 48, 53, 49, 53, 50, 53, 51, 53, 52, 53, 53, 53, 54, 53, 55, 53, 56, 53, 57, 54, 48, 54, 49, 54, 50, 54, 51, 54, 52, 54, 53, 54, 54, 54, 55, 54, 56, 54, 57, 55, 48, 55, 49, 55, 50, 55, 51, 55, 52, 55, 53, 55, 54, 55, 55, 55, 56, 55, 57, 56, 48, 56, 49, 56, 50, 56, 51, 56, 52, 56, 53, 56, 54, 56, 55, 56, 56, 56, 57, 57, 48, 57, 49, 57, 50, 57, 51, 57, 52, 57, 53, 57, 54, 57, 55, 57, 56, 57, 57])) (.t 152)), []⟩,
    ⟨(some 154), none, .q (.mv (.t 16)), []⟩,
    ⟨(some 155), none, .q (.idx (.v (.str [48, 48, 48, 49, 48, 50, 48, 51, 48, 52, 48, 53, 48, 54, 48, 55, 48, 56, 48, 57, 49, 48, 49, 49, 49, 50, 49, 51, 49, 52, 49, 53, 49, 54, 49, 55, 49, 56, 49, 57, 50, 48, 50, 49, 50, 50, 50, 51, 50, 52, 50, 53, 50, 54, 50, 55, 50, 56, 50, 57, 51, 48, 51, 49, 51, 50, 51, 51, 51, 52, 51, 53, 51, 54, 51, 55, 51, 56, 51, 57, 52, 48, 52, 49, 52, 50, 52, 51, 52, 52, 52, 53, 52, 54, 52, 55, 52, 56, 52, 57, 53, 48, 53, 49, 53, 50, 53, 51, 53, 52, 53, 53, 53, 54, 53, 55, 53, 56, 53, 57, 54, 48, 54, 49, 54, 50, 54, 51, 54, 52, 54, 53, 54, 54, 54, 55, 54, 56, 54, 57, 55, 48, 55, 49, 55, 50, 55, 51, 55, 52, 55, 53, 55, 54, 55, 55, 55, 56, 55, 57, 56, 48, 56, 49, 56, 50, 56, 51, 56, 52, 56, 53, 56, 54, 56, 55, 56, 56, 56, 57, 57, 48, 57, 49, 57, 50, 57, 51, 57, 52, 57, 53, 57, 54, 57, 55, 57, 56, 57, 57])) (.t 154)), []⟩,
    ⟨(some 156), none, .q (.ia 1 (.t 145) (.t 147)), []⟩,
    ⟨none, none, .e (.store 1 (.t 156) (.t 153)), []⟩,
    ⟨(some 157), none, .q (.ia 1 (.t 148) (.t 150)), []⟩,
    ⟨none, none, .e (.store 1 (.t 157) (.t 155)), []⟩]
def c75_46 : ACode := .ops [
    ⟨(some 158), none, .q (.mv (.t 4)), []⟩,
    ⟨(some 159), none, .q (.bin .sub (.t 158) (.v (.int .i64 2))), []⟩,
    ⟨(some 4), none, .q (.mv (.t 159)), []⟩]
def c75_47 : ACode := .seq c75_45 c75_46
def c75_48 : ACode := .seq c75_44 c75_47
def c75_49 : ACode := .seq c75_43 c75_48
def c75_50 : ACode := .cond (.t 139) c75_49 .skip
def c75_51 : ACode := .seq c75_42 c75_50
def c75_52 : ACode := .ops [
    ⟨(some 160), none, .q (.mv (.t 4)), []⟩,
    ⟨(some 161), none, .q (.bin .gtr (.t 160) (.v (.int .i64 0))), []⟩]
def c75_53 : ACode := .ops [
    ⟨(some 162), none, .q (.mv (.t 0)), []⟩,
    ⟨(some 163), none, .q (.mv (.t 12)), []⟩,
    ⟨(some 164), none, .q (.bin .add (.v (.int .u32 48)) (.t 163)), []⟩,
    ⟨(some 165), none, .q (.conv .u8 (.t 164)), []⟩,
    ⟨(some 166), none, .q (.ia 1 (.t 162) (.v (.int .i64 0))), []⟩,
    ⟨none, none, .e (.store 1 (.t 166) (.t 165)), []⟩]
def c75_54 : ACode := .cond (.t 161) c75_53 .skip
def c75_55 : ACode := .seq c75_52 c75_54
def c75_56 : ACode := .seq c75_51 c75_55
def c75_57 : ACode := .seq c75_41 c75_56
def c75_58 : ACode := .seq c75_27 c75_57
def c75_59 : ACode := .seq c75_26 c75_58
def c75_60 : ACode := .seq c75_0 c75_59
@[go_sem] theorem c75_0_wp (P : Program) (Q : APost) (a : AFr) (σ : ASt) : c75_0.wp P Q a σ = ACode.wp P (.ops [
    ⟨(some 17), none, .q (.mv (.t 0)), []⟩,
    ⟨(some 18), none, .q (.len (.t 17)), []⟩,
    ⟨(some 4), none, .q (.mv (.t 18)), []⟩]) Q a σ := id rfl
@[go_sem] theorem c75_1_wp (P : Program) (Q : APost) (a : AFr) (σ : ASt) : c75_1.wp P Q a σ = ACode.wp P (.ops [
    ⟨(some 19), none, .q (.mv (.t 4)), []⟩,
    ⟨(some 20), none, .q (.bin .geq (.t 19) (.v (.int .i64 8))), []⟩]) Q a σ := id rfl
@[go_sem] theorem c75_2_wp (P : Program) (Q : APost) (a : AFr) (σ : ASt) : c75_2.wp P Q a σ = ACode.wp P (.cond (.t 20) .skip (.exit 0)) Q a σ := id rfl
@[go_sem] theorem c75_3_wp (P : Program) (Q : APost) (a : AFr) (σ : ASt) : c75_3.wp P Q a σ = ACode.wp P (.seq c75_1 c75_2) Q a σ := id rfl
@[go_sem] theorem c75_4_wp (P : Program) (Q : APost) (a : AFr) (σ : ASt) : c75_4.wp P Q a σ = ACode.wp P (.ops [
    ⟨(some 21), none, .q (.mv (.t 1)), []⟩,
    ⟨(some 22), none, .q (.bin .rem (.t 21) (.v (.int .u64 100000000))), []⟩,
    ⟨(some 23), none, .q (.conv .u32 (.t 22)), []⟩,
    ⟨(some 5), none, .q (.mv (.t 23)), []⟩]) Q a σ := id rfl
@[go_sem] theorem c75_5_wp (P : Program) (Q : APost) (a : AFr) (σ : ASt) : c75_5.wp P Q a σ = ACode.wp P (.ops [
    ⟨(some 24), none, .q (.mv (.t 1)), []⟩,
    ⟨(some 25), none, .q (.bin .quo (.t 24) (.v (.int .u64 100000000))), []⟩,
    ⟨(some 1), none, .q (.mv (.t 25)), []⟩]) Q a σ := id rfl
@[go_sem] theorem c75_6_wp (P : Program) (Q : APost) (a : AFr) (σ : ASt) : c75_6.wp P Q a σ = ACode.wp P (.ops [
    ⟨(some 26), none, .q (.mv (.t 5)), []⟩,
    ⟨(some 27), none, .q (.bin .quo (.t 26) (.v (.int .u32 10000))), []⟩,
    ⟨(some 28), none, .q (.mv (.t 5)), []⟩,
    ⟨(some 29), none, .q (.bin .rem (.t 28) (.v (.int .u32 10000))), []⟩,
    ⟨(some 6), none, .q (.mv (.t 27)), []⟩,
    ⟨(some 7), none, .q (.mv (.t 29)), []⟩]) Q a σ := id rfl
@[go_sem] theorem c75_7_wp (P : Program) (Q : APost) (a : AFr) (σ : ASt) : c75_7.wp P Q a σ = ACode.wp P (.ops [
    ⟨(some 30), none, .q (.mv (.t 7)), []⟩,
    ⟨(some 31), none, .q (.bin .quo (.t 30) (.v (.int .u32 100))), []⟩,
    ⟨(some 32), none, .q (.bin .mul (.t 31) (.v (.int .u32 2))), []⟩,
    ⟨(some 33), none, .q (.mv (.t 7)), []⟩,
    ⟨(some 34), none, .q (.bin .rem (.t 33) (.v (.int .u32 100))), []⟩,
    ⟨(some 35), none, .q (.bin .mul (.t 34) (.v (.int .u32 2))), []⟩,
    ⟨(some 8), none, .q (.mv (.t 32)), []⟩,
    ⟨(some 9), none, .q (.mv (.t 35)), []⟩]) Q a σ := id rfl
@[go_sem] theorem c75_8_wp (P : Program) (Q : APost) (a : AFr) (σ : ASt) : c75_8.wp P Q a σ = ACode.wp P (.ops [
    ⟨(some 36), none, .q (.mv (.t 6)), []⟩,
    ⟨(some 37), none, .q (.bin .quo (.t 36) (.v (.int .u32 100))), []⟩,
    ⟨(some 38), none, .q (.bin .mul (.t 37) (.v (.int .u32 2))), []⟩,
    ⟨(some 39), none, .q (.mv (.t 6)), []⟩,
    ⟨(some 40), none, .q (.bin .rem (.t 39) (.v (.int .u32 100))), []⟩,
    ⟨(some 41), none, .q (.bin .mul (.t 40) (.v (.int .u32 2))), []⟩,
    ⟨(some 10), none, .q (.mv (.t 38)), []⟩,
    ⟨(some 11), none, .q (.mv (.t 41)), []⟩]) Q a σ := id rfl
@[go_sem] theorem c75_9_wp (P : Program) (Q : APost) (a : AFr) (σ : ASt) : c75_9.wp P Q a σ = ACode.wp P (.ops [
    ⟨(some 42), none, .q (.mv (.t 0)), []⟩,
    ⟨(some 43), none, .q (.mv (.t 4)), []⟩,
    ⟨(some 44), none, .q (.bin .sub (.t 43) (.v (.int .i64 1))), []⟩,
    ⟨(some 45), none, .q (.mv (.t 0)), []⟩,
    ⟨(some 46), none, .q (.mv (.t 4)), []⟩,
    ⟨(some 47), none, .q (.bin .sub (.t 46) (.v (.int .i64 2))), []⟩,
    ⟨(some 48), none, .q (.mv (.t 9)), []⟩,
    ⟨(some 49), none, .q (.bin .add (.t 48) (.v (.int .u32 1))), []⟩,
    ⟨(some 50), none, .q (.idx (.v (.str [48, 48, 48, 49, 48, 50, 48, 51, 48, 52, 48, 53, 48, 54, 48, 55, 48, 56, 48, 57, 49, 48, 49, 49, 49, 50, 49, 51, 49, 52, 49, 53, 49, 54, 49, 55, 49, 56, 49, 57, 50, 48, 50, 49, 50, 50, 50, 51, 50, 52, 50, 53, 50, 54, 50, 55, 50, 56, 50, 57, 51, 48, 51, 49, 51, 50, 51, 51, 51, 52, 51, 53, 51, 54, 51, 55, 51, 56, 51, 57, 52, 48, 52, 49, 52, 50, 52, 51, 52, 52, 52, 53, 52, 54, 52, 55, 52, 56, 52, 57, 53, 48, 53, 49, 53, 50, 53, 51, 53, 52, 53, 53, 53, 54, 53, 55, 53, 56, 53, 57, 54, 48, 54, 49, 54, 50, 54, 51, 54, 52, 54, 53, 54, 54, 54, 55, 54, 56, 54, 57, 55, 48, 55, 49, 55, 50, 55, 51, 55, 52, 55, 53, 55, 54, 55, 55, 55, 56, 55, 57, 56, 48, 56, 49, 56, 50, 56, 51, 56, 52, 56, 53, 56, 54, 56, 55, 56, 56, 56, 57, 57, 48, 57, 49, 57, 50, 57, 51, 57, 52, 57, 53, 57, 54, 57, 55, 57, 56, 57, 57])) (.t 49)), []⟩,
    ⟨(some 51), none, .q (.mv (.t 9)), []⟩,
    ⟨(some 52), none, .q (.idx (.v (.str [48, 48, 48, 49, 48, 50, 48, 51, 48, 52, 48, 53, 48, 54, 48, 55, 48, 56, 48, 57, 49, 48, 49, 49, 49, 50, 49, 51, 49, 52, 49, 53, 49, 54, 49, 55, 49, 56, 49, 57, 50, 48, 50, 49, 50, 50, 50, 51, 50, 52, 50, 53, 50, 54, 50, 55, 50, 56, 50, 57, 51, 48, 51, 49, 51, 50, 51, 51, 51, 52, 51, 53, 51, 54, 51, 55, 51, 56, 51, 57, 52, 48, 52, 49, 52, 50, 52, 51, 52, 52, 52, 53, 52, 54, 52, 55, 52, 56, 52, 57, 53, 48, 53, 49, 53, 50, 53, 51, 53, 52, 53, 53, 53, 54, 53, 55, 53, 56, 53, 57, 54, 48, 54, 49, 54, 50, 54, 51, 54, 52, 54, 53, 54, 54, 54, 55, 54, 56, 54, 57, 55, 48, 55, 49, 55, 50, 55, 51, 55, 52, 55, 53, 55, 54, 55, 55, 55, 56, 55, 57, 56, 48, 56, 49, 56, 50, 56, 51, 56, 52, 56, 53, 56, 54, 56, 55, 56, 56, 56, 57, 57, 48, 57, 49, 57, 50, 57, 51, 57, 52, 57, 53, 57, 54, 57, 55, 57, 56, 57, 57])) (.t 51)), []⟩,
    ⟨(some 53), none, .q (.ia 1 (.t 42) (.t 44)), []⟩,
    ⟨none, none, .e (.store 1 (.t 53) (.t 50)), []⟩,
    ⟨(some 54), none, .q (.ia 1 (.t 45) (.t 47)), []⟩,
    ⟨none, none, .e (.store 1 (.t 54) (.t 52)), []⟩]) Q a σ := id rfl
@[go_sem] theorem c75_10_wp (P : Program) (Q : APost) (a : AFr) (σ : ASt) : c75_10.wp P Q a σ = ACode.wp P (.ops [
    ⟨(some 55), none, .q (.mv (.t 0)), []⟩,
    ⟨(some 56), none, .q (.mv (.t 4)), []⟩,
    ⟨(some 57), none, .q (.bin .sub (.t 56) (.v (.int .i64 3))), []⟩,
    ⟨(some 58), none, .q (.mv (.t 0)), []⟩,
    ⟨(some 59), none, .q (.mv (.t 4)), []⟩,
    ⟨(some 60), none, .q (.bin .sub (.t 59) (.v (.int .i64 4))), []⟩,
    ⟨(some 61), none, .q (.mv (.t 8)), []⟩,
    ⟨(some 62), none, .q (.bin .add (.t 61) (.v (.int .u32 1))), []⟩,
    ⟨(some 63), none, .q (.idx (.v (.str [48, 48, 48, 49, 48, 50, 48, 51, 48, 52, 48, 53, 48, 54, 48, 55, 48, 56, 48, 57, 49, 48, 49, 49, 49, 50, 49, 51, 49, 52, 49, 53, 49, 54, 49, 55, 49, 56, 49, 57, 50, 48, 50, 49, 50, 50, 50, 51, 50, 52, 50, 53, 50, 54, 50, 55, 50, 56, 50, 57, 51, 48, 51, 49, 51, 50, 51, 51, 51, 52, 51, 53, 51, 54, 51, 55, 51, 56, 51, 57, 52, 48, 52, 49, 52, 50, 52, 51, 52, 52, 52, 53, 52, 54, 52, 55, 52, 56, 52, 57, 53, 48, 53, 49, 53, 50, 53, 51, 53, 52, 53, 53, 53, 54, 53, 55, 53, 56, 53, 57, 54, 48, 54, 49, 54, 50, 54, 51, 54, 52, 54, 53, 54, 54, 54, 55, 54, 56, 54, 57, 55, 48, 55, 49, 55, 50, 55, 51, 55, 52, 55, 53, 55, 54, 55, 55, 55, 56, 55, 57, 56, 48, 56, 49, 56, 50, 56, 51, 56, 52, 56, 53, 56, 54, 56, 55, 56, 56, 56, 57, 57, 48, 57, 49, 57, 50, 57, 51, 57, 52, 57, 53, 57, 54, 57, 55, 57, 56, 57, 57])) (.t 62)), []⟩,
    ⟨(some 64), none, .q (.mv (.t 8)), []⟩,
    ⟨(some 65), none, .q (.idx (.v (.str [48, 48, 48, 49, 48, 50, 48, 51, 48, 52, 48, 53, 48, 54, 48, 55, 48, 56, 48, 57, 49, 48, 49, 49, 49, 50, 49, 51, 49, 52, 49, 53, 49, 54, 49, 55, 49, 56, 49, 57, 50, 48, 50, 49, 50, 50, 50, 51, 50, 52, 50, 53, 50, 54, 50, 55, 50, 56, 50, 57, 51, 48, 51, 49, 51, 50, 51, 51, 51, 52, 51, 53, 51, 54, 51, 55, 51, 56, 51, 57, 52, 48, 52, 49, 52, 50, 52, 51, 52, 52, 52, 53, 52, 54, 52, 55, 52, 56, 52, 57, 53, 48, 53, 49, 53, 50, 53, 51, 53, 52, 53, 53, 53, 54, 53, 55, 53, 56, 53, 57, 54, 48, 54, 49, 54, 50, 54, 51, 54, 52, 54, 53, 54, 54, 54, 55, 54, 56, 54, 57, 55, 48, 55, 49, 55, 50, 55, 51, 55, 52, 55, 53, 55, 54, 55, 55, 55, 56, 55, 57, 56, 48, 56, 49, 56, 50, 56, 51, 56, 52, 56, 53, 56, 54, 56, 55, 56, 56, 56, 57, 57, 48, 57, 49, 57, 50, 57, 51, 57, 52, 57, 53, 57, 54, 57, 55, 57, 56, 57, 57])) (.t 64)), []⟩,
    ⟨(some 66), none, .q (.ia 1 (.t 55) (.t 57)), []⟩,
    ⟨none, none, .e (.store 1 (.t 66) (.t 63)), []⟩,
    ⟨(some 67), none, .q (.ia 1 (.t 58) (.t 60)), []⟩,
    ⟨none, none, .e (.store 1 (.t 67) (.t 65)), []⟩]) Q a σ := id rfl
@[go_sem] theorem c75_11_wp (P : Program) (Q : APost) (a : AFr) (σ : ASt) : c75_11.wp P Q a σ = ACode.wp P (.ops [
    ⟨(some 68), none, .q (.mv (.t 0)), []⟩,
    ⟨(some 69), none, .q (.mv (.t 4)), []⟩,
    ⟨(some 70), none, .q (.bin .sub (.t 69) (.v (.int .i64 5))), []⟩,
    ⟨(some 71), none, .q (.mv (.t 0)), []⟩,
    ⟨(some 72), none, .q (.mv (.t 4)), []⟩,
    ⟨(some 73), none, .q (.bin .sub (.t 72) (.v (.int .i64 6))), []⟩,
    ⟨(some 74), none, .q (.mv (.t 11)), []⟩,
    ⟨(some 75), none, .q (.bin .add (.t 74) (.v (.int .u32 1))), []⟩,
    ⟨(some 76), none, .q (.idx (.v (.str [48, 48, 48, 49, 48, 50, 48, 51, 48, 52, 48, 53, 48, 54, 48, 55, 48, 56, 48, 57, 49, 48, 49, 49, 49, 50, 49, 51, 49, 52, 49, 53, 49, 54, 49, 55, 49, 56, 49, 57, 50, 48, 50, 49, 50, 50, 50, 51, 50, 52, 50, 53, 50, 54, 50, 55, 50, 56, 50, 57, 51, 48, 51, 49, 51, 50, 51, 51, 51, 52, 51, 53, 51, 54, 51, 55, 51, 56, 51, 57, 52, 48, 52, 49, 52, 50, 52, 51, 52, 52, 52, 53, 52, 54, 52, 55, 52, 56, 52, 57, 53, 48, 53, 49, 53, 50, 53, 51, 53, 52, 53, 53, 53, 54, 53, 55, 53, 56, 53, 57, 54, 48, 54, 49, 54, 50, 54, 51, 54, 52, 54, 53, 54, 54, 54, 55, 54, 56, 54, 57, 55, 48, 55, 49, 55, 50, 55, 51, 55, 52, 55, 53, 55, 54, 55, 55, 55, 56, 55, 57, 56, 48, 56, 49, 56, 50, 56, 51, 56, 52, 56, 53, 56, 54, 56, 55, 56, 56, 56, 57, 57, 48, 57, 49, 57, 50, 57, 51, 57, 52, 57, 53, 57, 54, 57, 55, 57, 56, 57, 57])) (.t 75)), []⟩,
    ⟨(some 77), none, .q (.mv (.t 11)), []⟩,
    ⟨(some 78), none, .q (.idx (.v (.str [48, 48, 48, 49, 48, 50, 48, 51, 48, 52, 48, 53, 48, 54, 48, 55, 48, 56, 48, 57, 49, 48, 49, 49, 49, 50, 49, 51, 49, 52, 49, 53, 49, 54, 49, 55, 49, 56, 49, 57, 50, 48, 50, 49, 50, 50, 50, 51, 50, 52, 50, 53, 50, 54, 50, 55, 50, 56, 50, 57, 51, 48, 51, 49, 51, 50, 51, 51, 51, 52, 51, 53, 51, 54, 51, 55, 51, 56, 51, 57, 52, 48, 52, 49, 52, 50, 52, 51, 52, 52, 52, 53, 52, 54, 52, 55, 52, 56, 52, 57, 53, 48, 53, 49, 53, 50, 53, 51, 53, 52, 53, 53, 53, 54, 53, 55, 53, 56, 53, 57, 54, 48, 54, 49, 54, 50, 54, 51, 54, 52, 54, 53, 54, 54, 54, 55, 54, 56, 54, 57, 55, 48, 55, 49, 55, 50, 55, 51, 55, 52, 55, 53, 55, 54, 55, 55, 55, 56, 55, 57, 56, 48, 56, 49, 56, 50, 56, 51, 56, 52, 56, 53, 56, 54, 56, 55, 56, 56, 56, 57, 57, 48, 57, 49, 57, 50, 57, 51, 57, 52, 57, 53, 57, 54, 57, 55, 57, 56, 57, 57])) (.t 77)), []⟩,
    ⟨(some 79), none, .q (.ia 1 (.t 68) (.t 70)), []⟩,
    ⟨none, none, .e (.store 1 (.t 79) (.t 76)), []⟩,
    ⟨(some 80), none, .q (.ia 1 (.t 71) (.t 73)), []⟩,
    ⟨none, none, .e (.store 1 (.t 80) (.t 78)), []⟩]) Q a σ := id rfl
@[go_sem] theorem c75_12_wp (P : Program) (Q : APost) (a : AFr) (σ : ASt) : c75_12.wp P Q a σ = ACode.wp P (.ops [
    ⟨(some 81), none, .q (.mv (.t 0)), []⟩,
    ⟨(some 82), none, .q (.mv (.t 4)), []⟩,
    ⟨(some 83), none, .q (.bin .sub (.t 82) (.v (.int .i64 7))), []⟩,
    ⟨(some 84), none, .q (.mv (.t 0)), []⟩,
    ⟨(some 85), none, .q (.mv (.t 4)), []⟩,
    ⟨(some 86), none, .q (.bin .sub (.t 85) (.v (.int .i64 8))), []⟩,
    ⟨(some 87), none, .q (.mv (.t 10)), []⟩,
    ⟨(some 88), none, .q (.bin .add (.t 87) (.v (.int .u32 1))), []⟩,
    ⟨(some 89), none, .q (.idx (.v (.str [48, 48, 48, 49, 48, 50, 48, 51, 48, 52, 48, 53, 48, 54, 48, 55, 48, 56, 48, 57, 49, 48, 49, 49, 49, 50, 49, 51, 49, 52, 49, 53, 49, 54, 49, 55, 49, 56, 49, 57, 50, 48, 50, 49, 50, 50, 50, 51, 50, 52, 50, 53, 50, 54, 50, 55, 50, 56, 50, 57, 51, 48, 51, 49, 51, 50, 51, 51, 51, 52, 51, 53, 51, 54, 51, 55, 51, 56, 51, 57, 52, 48, 52, 49, 52, 50, 52, 51, 52, 52, 52, 53, 52, 54, 52, 55, 52, 56, 52, 57, 53, 48, 53, 49, 53, 50, 53, 51, 53, 52, 53, 53, 53, 54, 53, 55, 53, 56, 53, 57, 54, 48, 54, 49, 54, 50, 54, 51, 54, 52, 54, 53, 54, 54, 54, 55, 54, 56, 54, 57, 55, 48, 55, 49, 55, 50, 55, 51, 55, 52, 55, 53, 55, 54, 55, 55, 55, 56, 55, 57, 56, 48, 56, 49, 56, 50, 56, 51, 56, 52, 56, 53, 56, 54, 56, 55, 56, 56, 56, 57, 57, 48, 57, 49, 57, 50, 57, 51, 57, 52, 57, 53, 57, 54, 57, 55, 57, 56, 57, 57])) (.t 88)), []⟩,
    ⟨(some 90), none, .q (.mv (.t 10)), []⟩,
    ⟨(some 91), none, .q (.idx (.v (.str [48, 48, 48, 49, 48, 50, 48, 51, 48, 52, 48, 53, 48, 54, 48, 55, 48, 56, 48, 57, 49, 48, 49, 49, 49, 50, 49, 51, 49, 52, 49, 53, 49, 54, 49, 55, 49, 56, 49, 57, 50, 48, 50, 49, 50, 50, 50, 51, 50, 52, 50, 53, 50, 54, 50, 55, 50, 56, 50, 57, 51, 48, 51, 49, 51, 50, 51, 51, 51, 52, 51, 53, 51, 54, 51, 55, 51, 56, 51, 57, 52, 48, 52, 49, 52, 50, 52, 51, 52, 52, 52, 53, 52, 54, 52, 55, 52, 56, 52, 57, 53, 48, 53, 49, 53, 50, 53, 51, 53, 52, 53, 53, 53, 54, 53, 55, 53, 56, 53, 57, 54, 48, 54, 49, 54, 50, 54, 51, 54, 52, 54, 53, 54, 54, 54, 55, 54, 56, 54, 57, 55, 48, 55, 49, 55, 50, 55, 51, 55, 52, 55, 53, 55, 54, 55, 55, 55, 56, 55, 57, 56, 48, 56, 49, 56, 50, 56, 51, 56, 52, 56, 53, 56, 54, 56, 55, 56, 56, 56, 57, 57, 48, 57, 49, 57, 50, 57, 51, 57, 52, 57, 53, 57, 54, 57, 55, 57, 56, 57, 57])) (.t 90)), []⟩,
    ⟨(some 92), none, .q (.ia 1 (.t 81) (.t 83)), []⟩,
    ⟨none, none, .e (.store 1 (.t 92) (.t 89)), []⟩,
    ⟨(some 93), none, .q (.ia 1 (.t 84) (.t 86)), []⟩,
    ⟨none, none, .e (.store 1 (.t 93) (.t 91)), []⟩]) Q a σ := id rfl
@[go_sem] theorem c75_13_wp (P : Program) (Q : APost) (a : AFr) (σ : ASt) : c75_13.wp P Q a σ = ACode.wp P (.ops [
    ⟨(some 94), none, .q (.mv (.t 4)), []⟩,
    ⟨(some 95), none, .q (.bin .sub (.t 94) (.v (.int .i64 8))), []⟩,
    ⟨(some 4), none, .q (.mv (.t 95)), []⟩]) Q a σ := id rfl
@[go_sem] theorem c75_14_wp (P : Program) (Q : APost) (a : AFr) (σ : ASt) : c75_14.wp P Q a σ = ACode.wp P (.seq c75_12 c75_13) Q a σ := id rfl
@[go_sem] theorem c75_15_wp (P : Program) (Q : APost) (a : AFr) (σ : ASt) : c75_15.wp P Q a σ = ACode.wp P (.seq c75_11 c75_14) Q a σ := id rfl
@[go_sem] theorem c75_16_wp (P : Program) (Q : APost) (a : AFr) (σ : ASt) : c75_16.wp P Q a σ = ACode.wp P (.seq c75_10 c75_15) Q a σ := id rfl
@[go_sem] theorem c75_17_wp (P : Program) (Q : APost) (a : AFr) (σ : ASt) : c75_17.wp P Q a σ = ACode.wp P (.seq c75_9 c75_16) Q a σ := id rfl
@[go_sem] theorem c75_18_wp (P : Program) (Q : APost) (a : AFr) (σ : ASt) : c75_18.wp P Q a σ = ACode.wp P (.seq c75_8 c75_17) Q a σ := id rfl
@[go_sem] theorem c75_19_wp (P : Program) (Q : APost) (a : AFr) (σ : ASt) : c75_19.wp P Q a σ = ACode.wp P (.seq c75_7 c75_18) Q a σ := id rfl
@[go_sem] theorem c75_20_wp (P : Program) (Q : APost) (a : AFr) (σ : ASt) : c75_20.wp P Q a σ = ACode.wp P (.seq c75_6 c75_19) Q a σ := id rfl
@[go_sem] theorem c75_21_wp (P : Program) (Q : APost) (a : AFr) (σ : ASt) : c75_21.wp P Q a σ = ACode.wp P (.seq c75_5 c75_20) Q a σ := id rfl
@[go_sem] theorem c75_22_wp (P : Program) (Q : APost) (a : AFr) (σ : ASt) : c75_22.wp P Q a σ = ACode.wp P (.seq c75_4 c75_21) Q a σ := id rfl
@[go_sem] theorem c75_23_wp (P : Program) (Q : APost) (a : AFr) (σ : ASt) : c75_23.wp P Q a σ = ACode.wp P (.block 1 c75_22) Q a σ := id rfl
@[go_sem] theorem c75_24_wp (P : Program) (Q : APost) (a : AFr) (σ : ASt) : c75_24.wp P Q a σ = ACode.wp P (.seq c75_3 c75_23) Q a σ := id rfl
@[go_sem] theorem c75_25_wp (P : Program) (Q : APost) (a : AFr) (σ : ASt) : c75_25.wp P Q a σ = ACode.wp P (.loop c75_24) Q a σ := id rfl
@[go_sem] theorem c75_26_wp (P : Program) (Q : APost) (a : AFr) (σ : ASt) : c75_26.wp P Q a σ = ACode.wp P (.block 0 c75_25) Q a σ := id rfl
@[go_sem] theorem c75_27_wp (P : Program) (Q : APost) (a : AFr) (σ : ASt) : c75_27.wp P Q a σ = ACode.wp P (.ops [
    ⟨(some 96), none, .q (.mv (.t 1)), []⟩,
    ⟨(some 97), none, .q (.conv .u32 (.t 96)), []⟩,
    ⟨(some 12), none, .q (.mv (.t 97)), []⟩]) Q a σ := id rfl
@[go_sem] theorem c75_28_wp (P : Program) (Q : APost) (a : AFr) (σ : ASt) : c75_28.wp P Q a σ = ACode.wp P (.ops [
    ⟨(some 98), none, .q (.mv (.t 4)), []⟩,
    ⟨(some 99), none, .q (.bin .geq (.t 98) (.v (.int .i64 4))), []⟩]) Q a σ := id rfl
@[go_sem] theorem c75_29_wp (P : Program) (Q : APost) (a : AFr) (σ : ASt) : c75_29.wp P Q a σ = ACode.wp P (.ops [
    ⟨(some 100), none, .q (.mv (.t 12)), []⟩,
    ⟨(some 101), none, .q (.bin .rem (.t 100) (.v (.int .u32 10000))), []⟩,
    ⟨(some 13), none, .q (.mv (.t 101)), []⟩]) Q a σ := id rfl
@[go_sem] theorem c75_30_wp (P : Program) (Q : APost) (a : AFr) (σ : ASt) : c75_30.wp P Q a σ = ACode.wp P (.ops [
    ⟨(some 102), none, .q (.mv (.t 12)), []⟩,
    ⟨(some 103), none, .q (.bin .quo (.t 102) (.v (.int .u32 10000))), []⟩,
    ⟨(some 12), none, .q (.mv (.t 103)), []⟩]) Q a σ := id rfl
@[go_sem] theorem c75_31_wp (P : Program) (Q : APost) (a : AFr) (σ : ASt) : c75_31.wp P Q a σ = ACode.wp P (.ops [
    ⟨(some 104), none, .q (.mv (.t 13)), []⟩,
    ⟨(some 105), none, .q (.bin .quo (.t 104) (.v (.int .u32 100))), []⟩,
    ⟨(some 106), none, .q (.bin .mul (.t 105) (.v (.int .u32 2))), []⟩,
    ⟨(some 107), none, .q (.mv (.t 13)), []⟩,
    ⟨(some 108), none, .q (.bin .rem (.t 107) (.v (.int .u32 100))), []⟩,
    ⟨(some 109), none, .q (.bin .mul (.t 108) (.v (.int .u32 2))), []⟩,
    ⟨(some 14), none, .q (.mv (.t 106)), []⟩,
    ⟨(some 15), none, .q (.mv (.t 109)), []⟩]) Q a σ := id rfl
@[go_sem] theorem c75_32_wp (P : Program) (Q : APost) (a : AFr) (σ : ASt) : c75_32.wp P Q a σ = ACode.wp P (.ops [
    ⟨(some 110), none, .q (.mv (.t 0)), []⟩,
    ⟨(some 111), none, .q (.mv (.t 4)), []⟩,
    ⟨(some 112), none, .q (.bin .sub (.t 111) (.v (.int .i64 1))), []⟩,
    ⟨(some 113), none, .q (.mv (.t 0)), []⟩,
    ⟨(some 114), none, .q (.mv (.t 4)), []⟩,
    ⟨(some 115), none, .q (.bin .sub (.t 114) (.v (.int .i64 2))), []⟩,
    ⟨(some 116), none, .q (.mv (.t 15)), []⟩,
    ⟨(some 117), none, .q (.bin .add (.t 116) (.v (.int .u32 1))), []⟩,
    ⟨(some 118), none, .q (.idx (.v (.str [48, 48, 48, 49, 48, 50, 48, 51, 48, 52, 48, 53, 48, 54, 48, 55, 48, 56, 48, 57, 49, 48, 49, 49, 49, 50, 49, 51, 49, 52, 49, 53, 49, 54, 49, 55, 49, 56, 49, 57, 50, 48, 50, 49, 50, 50, 50, 51, 50, 52, 50, 53, 50, 54, 50, 55, 50, 56, 50, 57, 51, 48, 51, 49, 51, 50, 51, 51, 51, 52, 51, 53, 51, 54, 51, 55, 51, 56, 51, 57, 52, 48, 52, 49, 52, 50, 52, 51, 52, 52, 52, 53, 52, 54, 52, 55, 52, 56, 52, 57, 53, 48, 53, 49, 53, 50, 53, 51, 53, 52, 53, 53, 53, 54, 53, 55, 53, 56, 53, 57, 54, 48, 54, 49, 54, 50, 54, 51, 54, 52, 54, 53, 54, 54, 54, 55, 54, 56, 54, 57, 55, 48, 55, 49, 55, 50, 55, 51, 55, 52, 55, 53, 55, 54, 55, 55, 55, 56, 55, 57, 56, 48, 56, 49, 56, 50, 56, 51, 56, 52, 56, 53, 56, 54, 56, 55, 56, 56, 56, 57, 57, 48, 57, 49, 57, 50, 57, 51, 57, 52, 57, 53, 57, 54, 57, 55, 57, 56, 57, 57])) (.t 117)), []⟩,
    ⟨(some 119), none, .q (.mv (.t 15)), []⟩,
    ⟨(some 120), none, .q (.idx (.v (.str [48, 48, 48, 49, 48, 50, 48, 51, 48, 52, 48, 53, 48, 54, 48, 55, 48, 56, 48, 57, 49, 48, 49, 49, 49, 50, 49, 51, 49, 52, 49, 53, 49, 54, 49, 55, 49, 56, 49, 57, 50, 48, 50, 49, 50, 50, 50, 51, 50, 52, 50, 53, 50, 54, 50, 55, 50, 56, 50, 57, 51, 48, 51, 49, 51, 50, 51, 51, 51, 52, 51, 53, 51, 54, 51, 55, 51, 56, 51, 57, 52, 48, 52, 49, 52, 50, 52, 51, 52, 52, 52, 53, 52, 54, 52, 55, 52, 56, 52, 57, 53, 48, 53, 49, 53, 50, 53, 51, 53, 52, 53, 53, 53, 54, 53, 55, 53, 56, 53, 57, 54, 48, 54, 49, 54, 50, 54, 51, 54, 52, 54, 53, 54, 54, 54, 55, 54, 56, 54, 57, 55, 48, 55, 49, 55, 50, 55, 51, 55, 52, 55, 53, 55, 54, 55, 55, 55, 56, 55, 57, 56, 48, 56, 49, 56, 50, 56, 51, 56, 52, 56, 53, 56, 54, 56, 55, 56, 56, 56, 57, 57, 48, 57, 49, 57, 50, 57, 51, 57, 52, 57, 53, 57, 54, 57, 55, 57, 56, 57, 57])) (.t 119)), []⟩,
    ⟨(some 121), none, .q (.ia 1 (.t 110) (.t 112)), []⟩,
    ⟨none, none, .e (.store 1 (.t 121) (.t 118)), []⟩,
    ⟨(some 122), none, .q (.ia 1 (.t 113) (.t 115)), []⟩,
    ⟨none, none, .e (.store 1 (.t 122) (.t 120)), []⟩]) Q a σ := id rfl
@[go_sem] theorem c75_33_wp (P : Program) (Q : APost) (a : AFr) (σ : ASt) : c75_33.wp P Q a σ = ACode.wp P (.ops [
    ⟨(some 123), none, .q (.mv (.t 0)), []⟩,
    ⟨(some 124), none, .q (.mv (.t 4)), []⟩,
    ⟨(some 125), none, .q (.bin .sub (.t 124) (.v (.int .i64 3))), []⟩,
    ⟨(some 126), none, .q (.mv (.t 0)), []⟩,
    ⟨(some 127), none, .q (.mv (.t 4)), []⟩,
    ⟨(some 128), none, .q (.bin .sub (.t 127) (.v (.int .i64 4))), []⟩,
    ⟨(some 129), none, .q (.mv (.t 14)), []⟩,
    ⟨(some 130), none, .q (.bin .add (.t 129) (.v (.int .u32 1))), []⟩,
    ⟨(some 131), none, .q (.idx (.v (.str [48, 48, 48, 49, 48, 50, 48, 51, 48, 52, 48, 53, 48, 54, 48, 55, 48, 56, 48, 57, 49, 48, 49, 49, 49, 50, 49, 51, 49, 52, 49, 53, 49, 54, 49, 55, 49, 56, 49, 57, 50, 48, 50, 49, 50, 50, 50, 51, 50, 52, 50, 53, 50, 54, 50, 55, 50, 56, 50, 57, 51, 48, 51, 49, 51, 50, 51, 51, 51, 52, 51, 53, 51, 54, 51, 55, 51, 56, 51, 57, 52, 48, 52, 49, 52, 50, 52, 51, 52, 52, 52, 53, 52, 54, 52, 55, 52, 56, 52, 57, 53, 48, 53, 49, 53, 50, 53, 51, 53, 52, 53, 53, 53, 54, 53, 55, 53, 56, 53, 57, 54, 48, 54, 49, 54, 50, 54, 51, 54, 52, 54, 53, 54, 54, 54, 55, 54, 56, 54, 57, 55, 48, 55, 49, 55, 50, 55, 51, 55, 52, 55, 53, 55, 54, 55, 55, 55, 56, 55, 57, 56, 48, 56, 49, 56, 50, 56, 51, 56, 52, 56, 53, 56, 54, 56, 55, 56, 56, 56, 57, 57, 48, 57, 49, 57, 50, 57, 51, 57, 52, 57, 53, 57, 54, 57, 55, 57, 56, 57, 57])) (.t 130)), []⟩,
    ⟨(some 132), none, .q (.mv (.t 14)), []⟩,
    ⟨(some 133), none, .q (.idx (.v (.str [48, 48, 48, 49, 48, 50, 48, 51, 48, 52, 48, 53, 48, 54, 48, 55, 48, 56, 48, 57, 49, 48, 49, 49, 49, 50, 49, 51, 49, 52, 49, 53, 49, 54, 49, 55, 49, 56, 49, 57, 50, 48, 50, 49, 50, 50, 50, 51, 50, 52, 50, 53, 50, 54, 50, 55, 50, 56, 50, 57, 51, 48, 51, 49, 51, 50, 51, 51, 51, 52, 51, 53, 51, 54, 51, 55, 51, 56, 51, 57, 52, 48, 52, 49, 52, 50, 52, 51, 52, 52, 52, 53, 52, 54, 52, 55, 52, 56, 52, 57, 53, 48, 53, 49, 53, 50, 53, 51, 53, 52, 53, 53, 53, 54, 53, 55, 53, 56, 53, 57, 54, 48, 54, 49, 54, 50, 54, 51, 54, 52, 54, 53, 54, 54, 54, 55, 54, 56, 54, 57, 55, 48, 55, 49, 55, 50, 55, 51, 55, 52, 55, 53, 55, 54, 55, 55, 55, 56, 55, 57, 56, 48, 56, 49, 56, 50, 56, 51, 56, 52, 56, 53, 56, 54, 56, 55, 56, 56, 56, 57, 57, 48, 57, 49, 57, 50, 57, 51, 57, 52, 57, 53, 57, 54, 57, 55, 57, 56, 57, 57])) (.t 132)), []⟩,
    ⟨(some 134), none, .q (.ia 1 (.t 123) (.t 125)), []⟩,
    ⟨none, none, .e (.store 1 (.t 134) (.t 131)), []⟩,
    ⟨(some 135), none, .q (.ia 1 (.t 126) (.t 128)), []⟩,
    ⟨none, none, .e (.store 1 (.t 135) (.t 133)), []⟩]) Q a σ := id rfl
@[go_sem] theorem c75_34_wp (P : Program) (Q : APost) (a : AFr) (σ : ASt) : c75_34.wp P Q a σ = ACode.wp P (.ops [
    ⟨(some 136), none, .q (.mv (.t 4)), []⟩,
    ⟨(some 137), none, .q (.bin .sub (.t 136) (.v (.int .i64 4))), []⟩,
    ⟨(some 4), none, .q (.mv (.t 137)), []⟩]) Q a σ := id rfl
@[go_sem] theorem c75_35_wp (P : Program) (Q : APost) (a : AFr) (σ : ASt) : c75_35.wp P Q a σ = ACode.wp P (.seq c75_33 c75_34) Q a σ := id rfl
@[go_sem] theorem c75_36_wp (P : Program) (Q : APost) (a : AFr) (σ : ASt) : c75_36.wp P Q a σ = ACode.wp P (.seq c75_32 c75_35) Q a σ := id rfl
@[go_sem] theorem c75_37_wp (P : Program) (Q : APost) (a : AFr) (σ : ASt) : c75_37.wp P Q a σ = ACode.wp P (.seq c75_31 c75_36) Q a σ := id rfl
@[go_sem] theorem c75_38_wp (P : Program) (Q : APost) (a : AFr) (σ : ASt) : c75_38.wp P Q a σ = ACode.wp P (.seq c75_30 c75_37) Q a σ := id rfl
@[go_sem] theorem c75_39_wp (P : Program) (Q : APost) (a : AFr) (σ : ASt) : c75_39.wp P Q a σ = ACode.wp P (.seq c75_29 c75_38) Q a σ := id rfl
@[go_sem] theorem c75_40_wp (P : Program) (Q : APost) (a : AFr) (σ : ASt) : c75_40.wp P Q a σ = ACode.wp P (.cond (.t 99) c75_39 .skip) Q a σ := id rfl
@[go_sem] theorem c75_41_wp (P : Program) (Q : APost) (a : AFr) (σ : ASt) : c75_41.wp P Q a σ = ACode.wp P (.seq c75_28 c75_40) Q a σ := id rfl
@[go_sem] theorem c75_42_wp (P : Program) (Q : APost) (a : AFr) (σ : ASt) : c75_42.wp P Q a σ = ACode.wp P (.ops [
    ⟨(some 138), none, .q (.mv (.t 4)), []⟩,
    ⟨(some 139), none, .q (.bin .geq (.t 138) (.v (.int .i64 2))), []⟩]) Q a σ := id rfl
@[go_sem] theorem c75_43_wp (P : Program) (Q : APost) (a : AFr) (σ : ASt) : c75_43.wp P Q a σ = ACode.wp P (.ops [
    ⟨(some 140), none, .q (.mv (.t 12)), []⟩,
    ⟨(some 141), none, .q (.bin .rem (.t 140) (.v (.int .u32 100))), []⟩,
    ⟨(some 142), none, .q (.bin .mul (.t 141) (.v (.int .u32 2))), []⟩,
    ⟨(some 16), none, .q (.mv (.t 142)), []⟩]) Q a σ := id rfl
@[go_sem] theorem c75_44_wp (P : Program) (Q : APost) (a : AFr) (σ : ASt) : c75_44.wp P Q a σ = ACode.wp P (.ops [
    ⟨(some 143), none, .q (.mv (.t 12)), []⟩,
    ⟨(some 144), none, .q (.bin .quo (.t 143) (.v (.int .u32 100))), []⟩,
    ⟨(some 12), none, .q (.mv (.t 144)), []⟩]) Q a σ := id rfl
@[go_sem] theorem c75_45_wp (P : Program) (Q : APost) (a : AFr) (σ : ASt) : c75_45.wp P Q a σ = ACode.wp P (.ops [
    ⟨(some 145), none, .q (.mv (.t 0)), []⟩,
    ⟨(some 146), none, .q (.mv (.t 4)), []⟩,
    ⟨(some 147), none, .q (.bin .sub (.t 146) (.v (.int .i64 1))), []⟩,
    ⟨(some 148), none, .q (.mv (.t 0)), []⟩,
    ⟨(some 149), none, .q (.mv (.t 4)), []⟩,
    ⟨(some 150), none, .q (.bin .sub (.t 149) (.v (.int .i64 2))), []⟩,
    ⟨(some 151), none, .q (.mv (.t 16)), []⟩,
    ⟨(some 152), none, .q (.bin .add (.t 151) (.v (.int .u32 1))), []⟩,
    ⟨(some 153), none, .q (.idx (.v (.str [48, 48, 48, 49, 48, 50, 48, 51, 48, 52, 48, 53, 48, 54, 48, 55, 48, 56, 48, 57, 49, 48, 49, 49, 49, 50, 49, 51, 49, 52, 49, 53, 49, 54, 49, 55, 49, 56, 49, 57, 50, 48, 50, 49, 50, 50, 50, 51, 50, 52, 50, 53, 50, 54, 50, 55, 50, 56, 50, 57, 51, 48, 51, 49, 51, 50, 51, 51, 51, 52, 51, 53, 51, 54, 51, 55, 51, 56, 51, 57, 52, 48, 52, 49, 52, 50, 52, 51, 52, 52, 52, 53, 52, 54, 52, 55, 52, 56, 52, 57, 53, 48, 53, 49, 53, 50, 53, 51, 53, 52, 53, 53, 53, 54, 53, 55, 53, 56, 53, 57, 54, 48, 54, 49, 54, 50, 54, 51, 54, 52, 54, 53, 54, 54, 54, 55, 54, 56, 54, 57, 55, 48, 55, 49, 55, 50, 55, 51, 55, 52, 55, 53, 55, 54, 55, 55, 55, 56, 55, 57, 56, 48, 56, 49, 56, 50, 56, 51, 56, 52, 56, 53, 56, 54, 56, 55, 56, 56, 56, 57, 57, 48, 57, 49, 57, 50, 57, 51, 57, 52, 57, 53, 57, 54, 57, 55, 57, 56, 57, 57])) (.t 152)), []⟩,
    ⟨(some 154), none, .q (.mv (.t 16)), []⟩,
    ⟨(some 155), none, .q (.idx (.v (.str [48, 48, 48, 49, 48, 50, 48, 51, 48, 52, 48, 53, 48, 54, 48, 55, 48, 56, 48, 57, 49, 48, 49, 49, 49, 50, 49, 51, 49, 52, 49, 53, 49, 54, 49, 55, 49, 56, 49, 57, 50, 48, 50, 49, 50, 50, 50, 51, 50, 52, 50, 53, 50, 54, 50, 55, 50, 56, 50, 57, 51, 48, 51, 49, 51, 50, 51, 51, 51, 52, 51, 53, 51, 54, 51, 55, 51, 56, 51, 57, 52, 48, 52, 49, 52, 50, 52, 51, 52, 52, 52, 53, 52, 54, 52, 55, 52, 56, 52, 57, 53, 48, 53, 49, 53, 50, 53, 51, 53, 52, 53, 53, 53, 54, 53, 55, 53, 56, 53, 57, 54, 48, 54, 49, 54, 50, 54, 51, 54, 52, 54, 53, 54, 54, 54, 55, 54, 56, 54, 57, 55, 48, 55, 49, 55, 50, 55, 51, 55, 52, 55, 53, 55, 54, 55, 55, 55, 56, 55, 57, 56, 48, 56, 49, 56, 50, 56, 51, 56, 52, 56, 53, 56, 54, 56, 55, 56, 56, 56, 57, 57, 48, 57, 49, 57, 50, 57, 51, 57, 52, 57, 53, 57, 54, 57, 55, 57, 56, 57, 57])) (.t 154)), []⟩,
    ⟨(some 156), none, .q (.ia 1 (.t 145) (.t 147)), []⟩,
    ⟨none, none, .e (.store 1 (.t 156) (.t 153)), []⟩,
    ⟨(some 157), none, .q (.ia 1 (.t 148) (.t 150)), []⟩,
    ⟨none, none, .e (.store 1 (.t 157) (.t 155)), []⟩]) Q a σ := id rfl
@[go_sem] theorem c75_46_wp (P : Program) (Q : APost) (a : AFr) (σ : ASt) : c75_46.wp P Q a σ = ACode.wp P (.ops [
    ⟨(some 158), none, .q (.mv (.t 4)), []⟩,
    ⟨(some 159), none, .q (.bin .sub (.t 158) (.v (.int .i64 2))), []⟩,
    ⟨(some 4), none, .q (.mv (.t 159)), []⟩]) Q a σ := id rfl
@[go_sem] theorem c75_47_wp (P : Program) (Q : APost) (a : AFr) (σ : ASt) : c75_47.wp P Q a σ = ACode.wp P (.seq c75_45 c75_46) Q a σ := id rfl
@[go_sem] theorem c75_48_wp (P : Program) (Q : APost) (a : AFr) (σ : ASt) : c75_48.wp P Q a σ = ACode.wp P (.seq c75_44 c75_47) Q a σ := id rfl
@[go_sem] theorem c75_49_wp (P : Program) (Q : APost) (a : AFr) (σ : ASt) : c75_49.wp P Q a σ = ACode.wp P (.seq c75_43 c75_48) Q a σ := id rfl
@[go_sem] theorem c75_50_wp (P : Program) (Q : APost) (a : AFr) (σ : ASt) : c75_50.wp P Q a σ = ACode.wp P (.cond (.t 139) c75_49 .skip) Q a σ := id rfl
@[go_sem] theorem c75_51_wp (P : Program) (Q : APost) (a : AFr) (σ : ASt) : c75_51.wp P Q a σ = ACode.wp P (.seq c75_42 c75_50) Q a σ := id rfl
@[go_sem] theorem c75_52_wp (P : Program) (Q : APost) (a : AFr) (σ : ASt) : c75_52.wp P Q a σ = ACode.wp P (.ops [
    ⟨(some 160), none, .q (.mv (.t 4)), []⟩,
    ⟨(some 161), none, .q (.bin .gtr (.t 160) (.v (.int .i64 0))), []⟩]) Q a σ := id rfl
@[go_sem] theorem c75_53_wp (P : Program) (Q : APost) (a : AFr) (σ : ASt) : c75_53.wp P Q a σ = ACode.wp P (.ops [
    ⟨(some 162), none, .q (.mv (.t 0)), []⟩,
    ⟨(some 163), none, .q (.mv (.t 12)), []⟩,
    ⟨(some 164), none, .q (.bin .add (.v (.int .u32 48)) (.t 163)), []⟩,
    ⟨(some 165), none, .q (.conv .u8 (.t 164)), []⟩,
    ⟨(some 166), none, .q (.ia 1 (.t 162) (.v (.int .i64 0))), []⟩,
    ⟨none, none, .e (.store 1 (.t 166) (.t 165)), []⟩]) Q a σ := id rfl
@[go_sem] theorem c75_54_wp (P : Program) (Q : APost) (a : AFr) (σ : ASt) : c75_54.wp P Q a σ = ACode.wp P (.cond (.t 161) c75_53 .skip) Q a σ := id rfl
@[go_sem] theorem c75_55_wp (P : Program) (Q : APost) (a : AFr) (σ : ASt) : c75_55.wp P Q a σ = ACode.wp P (.seq c75_52 c75_54) Q a σ := id rfl
@[go_sem] theorem c75_56_wp (P : Program) (Q : APost) (a : AFr) (σ : ASt) : c75_56.wp P Q a σ = ACode.wp P (.seq c75_51 c75_55) Q a σ := id rfl
@[go_sem] theorem c75_57_wp (P : Program) (Q : APost) (a : AFr) (σ : ASt) : c75_57.wp P Q a σ = ACode.wp P (.seq c75_41 c75_56) Q a σ := id rfl
@[go_sem] theorem c75_58_wp (P : Program) (Q : APost) (a : AFr) (σ : ASt) : c75_58.wp P Q a σ = ACode.wp P (.seq c75_27 c75_57) Q a σ := id rfl
@[go_sem] theorem c75_59_wp (P : Program) (Q : APost) (a : AFr) (σ : ASt) : c75_59.wp P Q a σ = ACode.wp P (.seq c75_26 c75_58) Q a σ := id rfl
@[go_sem] theorem c75_60_wp (P : Program) (Q : APost) (a : AFr) (σ : ASt) : c75_60.wp P Q a σ = ACode.wp P (.seq c75_0 c75_59) Q a σ := id rfl
def c75 : AFn := ⟨167, [], c75_60⟩
set_option maxRecDepth 100000 in
theorem c75_ok : compF Tryd.prog Tryd.f75 = some c75 := by kernel_rfl
theorem a75 {args : List AV} {σ : ASt} {R : AV → ASt → Prop} (hl : args.length ≤ 167) (h : c75_60.wp Tryd.prog (RetQ [] R) (init args) σ) : ACalls Tryd.prog 75 args σ R := acalls_of Tryd.func75 c75_ok hl h

/-! 98: math/bits.TrailingZeros32 -/
def c98_0 : ACode := .ops [
    ⟨(some 2), none, .q (.mv (.v (.int .i64 0))), []⟩]
def c98_1 : ACode := .ops [
    ⟨(some 3), none, .q (.mv (.t 0)), []⟩,
    ⟨(some 4), none, .q (.bin .eql (.t 3) (.v (.int .u32 0))), []⟩]
def c98_2 : ACode := .ops [
    ⟨(some 2), none, .q (.mv (.v (.int .i64 32))), []⟩]
def c98_3 : ACode := .seq c98_2 .ret
def c98_4 : ACode := .cond (.t 4) c98_3 .skip
def c98_5 : ACode := .seq c98_1 c98_4
def c98_6 : ACode := .ops [
    ⟨(some 5), none, .q (.mv (.t 0)), []⟩,
    ⟨(some 6), none, .q (.mv (.t 0)), []⟩,
    ⟨(some 7), none, .q (.un .neg (.t 6)), []⟩,
    ⟨(some 8), none, .q (.bin .and (.t 5) (.t 7)), []⟩,
    ⟨(some 9), none, .q (.bin .mul (.t 8) (.v (.int .u32 125613361))), []⟩,
    ⟨(some 10), none, .q (.bin .shr (.t 9) (.v (.int .u64 27))), []⟩,
    ⟨(some 11), none, .q (.iaa 32 1 (.v (.ptr 4 0)) (.t 10)), []⟩,
    ⟨(some 12), none, .q (.ld none (.t 11)), []⟩,
    ⟨(some 13), none, .q (.conv .i64 (.t 12)), []⟩,
    ⟨(some 2), none, .q (.mv (.t 13)), []⟩]
def c98_7 : ACode := .seq c98_6 .ret
def c98_8 : ACode := .seq c98_5 c98_7
def c98_9 : ACode := .seq c98_0 c98_8
@[go_sem] theorem c98_0_wp (P : Program) (Q : APost) (a : AFr) (σ : ASt) : c98_0.wp P Q a σ = ACode.wp P (.ops [
    ⟨(some 2), none, .q (.mv (.v (.int .i64 0))), []⟩]) Q a σ := id rfl
@[go_sem] theorem c98_1_wp (P : Program) (Q : APost) (a : AFr) (σ : ASt) : c98_1.wp P Q a σ = ACode.wp P (.ops [
    ⟨(some 3), none, .q (.mv (.t 0)), []⟩,
    ⟨(some 4), none, .q (.bin .eql (.t 3) (.v (.int .u32 0))), []⟩]) Q a σ := id rfl
@[go_sem] theorem c98_2_wp (P : Program) (Q : APost) (a : AFr) (σ : ASt) : c98_2.wp P Q a σ = ACode.wp P (.ops [
    ⟨(some 2), none, .q (.mv (.v (.int .i64 32))), []⟩]) Q a σ := id rfl
@[go_sem] theorem c98_3_wp (P : Program) (Q : APost) (a : AFr) (σ : ASt) : c98_3.wp P Q a σ = ACode.wp P (.seq c98_2 .ret) Q a σ := id rfl
@[go_sem] theorem c98_4_wp (P : Program) (Q : APost) (a : AFr) (σ : ASt) : c98_4.wp P Q a σ = ACode.wp P (.cond (.t 4) c98_3 .skip) Q a σ := id rfl
@[go_sem] theorem c98_5_wp (P : Program) (Q : APost) (a : AFr) (σ : ASt) : c98_5.wp P Q a σ = ACode.wp P (.seq c98_1 c98_4) Q a σ := id rfl
@[go_sem] theorem c98_6_wp (P : Program) (Q : APost) (a : AFr) (σ : ASt) : c98_6.wp P Q a σ = ACode.wp P (.ops [
    ⟨(some 5), none, .q (.mv (.t 0)), []⟩,
    ⟨(some 6), none, .q (.mv (.t 0)), []⟩,
    ⟨(some 7), none, .q (.un .neg (.t 6)), []⟩,
    ⟨(some 8), none, .q (.bin .and (.t 5) (.t 7)), []⟩,
    ⟨(some 9), none, .q (.bin .mul (.t 8) (.v (.int .u32 125613361))), []⟩,
    ⟨(some 10), none, .q (.bin .shr (.t 9) (.v (.int .u64 27))), []⟩,
    ⟨(some 11), none, .q (.iaa 32 1 (.v (.ptr 4 0)) (.t 10)), []⟩,
    ⟨(some 12), none, .q (.ld none (.t 11)), []⟩,
    ⟨(some 13), none, .q (.conv .i64 (.t 12)), []⟩,
    ⟨(some 2), none, .q (.mv (.t 13)), []⟩]) Q a σ := id rfl
@[go_sem] theorem c98_7_wp (P : Program) (Q : APost) (a : AFr) (σ : ASt) : c98_7.wp P Q a σ = ACode.wp P (.seq c98_6 .ret) Q a σ := id rfl
@[go_sem] theorem c98_8_wp (P : Program) (Q : APost) (a : AFr) (σ : ASt) : c98_8.wp P Q a σ = ACode.wp P (.seq c98_5 c98_7) Q a σ := id rfl
@[go_sem] theorem c98_9_wp (P : Program) (Q : APost) (a : AFr) (σ : ASt) : c98_9.wp P Q a σ = ACode.wp P (.seq c98_0 c98_8) Q a σ := id rfl
def c98 : AFn := ⟨14, [.t 2], c98_9⟩
set_option maxRecDepth 100000 in
theorem c98_ok : compF Tryd.prog Tryd.f98 = some c98 := by kernel_rfl
theorem a98 {args : List AV} {σ : ASt} {R : AV → ASt → Prop} (hl : args.length ≤ 14) (h : c98_9.wp Tryd.prog (RetQ [.t 2] R) (init args) σ) : ACalls Tryd.prog 98 args σ R := acalls_of Tryd.func98 c98_ok hl h

end Go.A
