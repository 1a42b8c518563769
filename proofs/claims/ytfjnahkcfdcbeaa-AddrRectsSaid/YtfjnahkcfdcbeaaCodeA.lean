/- The functions, compiled: by program (wip/gencode.py). -/
import Derived.Test.YtfjnahkcfdcbeaaBk
import Derived.Test.YtfjnahkcfdcbeaaProg
import Derived.KernelRfl
namespace Go.A
open Go.Proofs

/-! 4: tabular/tabularlaw10.AddrColumns -/
def c4_0 : ACode := .ops [
    ⟨(some 4), none, .q (.mv (.v (.bool false))), []⟩]
def c4_1 : ACode := .ops [
    ⟨(some 11), none, .q (.mv (.t 0)), []⟩,
    ⟨(some 12), none, .q (.bin .lss (.t 11) (.v (.int .i64 0))), []⟩,
    ⟨(some 13), none, .q (.mv (.t 12)), []⟩,
    ⟨(some 14), (some (13, false)), .q (.mv (.t 0)), []⟩,
    ⟨(some 15), (some (13, false)), .q (.mv (.t 1)), []⟩,
    ⟨(some 16), (some (13, false)), .q (.bin .geq (.t 14) (.t 15)), []⟩,
    ⟨(some 17), none, .q (.pick (.t 13) (.v (.bool true)) (.t 16)), []⟩,
    ⟨(some 18), none, .q (.mv (.t 17)), []⟩,
    ⟨(some 19), (some (18, false)), .q (.mv (.t 1)), []⟩,
    ⟨(some 20), (some (18, false)), .q (.bin .geq (.t 19) (.v (.int .i64 700))), []⟩,
    ⟨(some 21), none, .q (.pick (.t 18) (.v (.bool true)) (.t 20)), []⟩]
def c4_2 : ACode := .ops [
    ⟨(some 22), none, .e (.call 11 []), []⟩,
    ⟨(some 4), none, .q (.mv (.t 22)), []⟩]
def c4_3 : ACode := .seq c4_2 .ret
def c4_4 : ACode := .cond (.t 21) c4_3 .skip
def c4_5 : ACode := .seq c4_1 c4_4
def c4_6 : ACode := .ops [
    ⟨(some 23), none, .q (.mv (.t 0)), []⟩,
    ⟨(some 24), none, .e (.call 12 [(.t 23)]), []⟩,
    ⟨(some 25), none, .q (.mv (.t 1)), []⟩,
    ⟨(some 26), none, .e (.call 12 [(.t 25)]), []⟩,
    ⟨(some 5), none, .q (.mv (.t 24)), []⟩,
    ⟨(some 6), none, .q (.mv (.t 26)), []⟩]
def c4_7 : ACode := .ops [
    ⟨(some 28), none, .q (.mv (.t 5)), []⟩,
    ⟨(some 29), none, .e (.call 9 [(.t 28)]), []⟩,
    ⟨(some 27), none, .q (.mv (.t 29)), []⟩,
    ⟨(some 30), none, .q (.ext 0 (.t 27)), []⟩,
    ⟨(some 31), none, .q (.ext 1 (.t 27)), []⟩,
    ⟨(some 7), none, .q (.mv (.t 30)), []⟩,
    ⟨(some 8), none, .q (.mv (.t 31)), []⟩]
def c4_8 : ACode := .ops [
    ⟨(some 33), none, .q (.mv (.t 6)), []⟩,
    ⟨(some 34), none, .e (.call 9 [(.t 33)]), []⟩,
    ⟨(some 32), none, .q (.mv (.t 34)), []⟩,
    ⟨(some 35), none, .q (.ext 0 (.t 32)), []⟩,
    ⟨(some 36), none, .q (.ext 1 (.t 32)), []⟩,
    ⟨(some 9), none, .q (.mv (.t 35)), []⟩,
    ⟨(some 10), none, .q (.mv (.t 36)), []⟩]
def c4_9 : ACode := .ops [
    ⟨(some 37), none, .e (.call 11 []), []⟩,
    ⟨(some 38), none, .q (.mv (.t 37)), []⟩,
    ⟨(some 39), (some (38, true)), .q (.mv (.t 8)), []⟩,
    ⟨(some 40), none, .q (.pick (.t 38) (.t 39) (.v (.bool false))), []⟩,
    ⟨(some 41), none, .q (.mv (.t 40)), []⟩,
    ⟨(some 42), (some (41, true)), .q (.mv (.t 10)), []⟩,
    ⟨(some 43), none, .q (.pick (.t 41) (.t 42) (.v (.bool false))), []⟩,
    ⟨(some 44), none, .q (.mv (.t 43)), []⟩,
    ⟨(some 45), (some (44, true)), .q (.mv (.t 7)), []⟩,
    ⟨(some 46), (some (44, true)), .q (.mv (.t 0)), []⟩,
    ⟨(some 47), (some (44, true)), .q (.bin .eql (.t 45) (.t 46)), []⟩,
    ⟨(some 48), none, .q (.pick (.t 44) (.t 47) (.v (.bool false))), []⟩,
    ⟨(some 49), none, .q (.mv (.t 48)), []⟩,
    ⟨(some 50), (some (49, true)), .q (.mv (.t 9)), []⟩,
    ⟨(some 51), (some (49, true)), .q (.mv (.t 1)), []⟩,
    ⟨(some 52), (some (49, true)), .q (.bin .eql (.t 50) (.t 51)), []⟩,
    ⟨(some 53), none, .q (.pick (.t 49) (.t 52) (.v (.bool false))), []⟩,
    ⟨(some 54), none, .q (.mv (.t 53)), []⟩,
    ⟨(some 55), (some (54, true)), .q (.mv (.t 5)), []⟩,
    ⟨(some 56), (some (54, true)), .q (.lenS (.t 55)), []⟩,
    ⟨(some 57), (some (54, true)), .q (.mv (.t 6)), []⟩,
    ⟨(some 58), (some (54, true)), .q (.lenS (.t 57)), []⟩,
    ⟨(some 59), (some (54, true)), .q (.bin .lss (.t 56) (.t 58)), []⟩,
    ⟨(some 60), (some (54, true)), .q (.mv (.t 59)), []⟩,
    ⟨(some 61), (some (60, false)), .q (.mv (.t 5)), []⟩,
    ⟨(some 62), (some (60, false)), .q (.lenS (.t 61)), []⟩,
    ⟨(some 63), (some (60, false)), .q (.mv (.t 6)), []⟩,
    ⟨(some 64), (some (60, false)), .q (.lenS (.t 63)), []⟩,
    ⟨(some 65), (some (60, false)), .q (.bin .eql (.t 62) (.t 64)), []⟩,
    ⟨(some 66), (some (60, false)), .q (.mv (.t 65)), []⟩,
    ⟨(some 67), (some (66, true)), .q (.mv (.t 5)), []⟩,
    ⟨(some 68), (some (66, true)), .q (.mv (.t 6)), []⟩,
    ⟨(some 69), (some (66, true)), .q (.bin .lss (.t 67) (.t 68)), []⟩,
    ⟨(some 70), (some (60, false)), .q (.pick (.t 66) (.t 69) (.v (.bool false))), []⟩,
    ⟨(some 71), (some (54, true)), .q (.pick (.t 60) (.v (.bool true)) (.t 70)), []⟩,
    ⟨(some 72), none, .q (.pick (.t 54) (.t 71) (.v (.bool false))), []⟩,
    ⟨(some 4), none, .q (.mv (.t 72)), []⟩]
def c4_10 : ACode := .seq c4_9 .ret
def c4_11 : ACode := .seq c4_8 c4_10
def c4_12 : ACode := .seq c4_7 c4_11
def c4_13 : ACode := .seq c4_6 c4_12
def c4_14 : ACode := .seq c4_5 c4_13
def c4_15 : ACode := .seq c4_0 c4_14
@[go_sem] theorem c4_0_wp (P : Program) (Q : APost) (a : AFr) (σ : ASt) : c4_0.wp P Q a σ = ACode.wp P (.ops [
    ⟨(some 4), none, .q (.mv (.v (.bool false))), []⟩]) Q a σ := id rfl
@[go_sem] theorem c4_1_wp (P : Program) (Q : APost) (a : AFr) (σ : ASt) : c4_1.wp P Q a σ = ACode.wp P (.ops [
    ⟨(some 11), none, .q (.mv (.t 0)), []⟩,
    ⟨(some 12), none, .q (.bin .lss (.t 11) (.v (.int .i64 0))), []⟩,
    ⟨(some 13), none, .q (.mv (.t 12)), []⟩,
    ⟨(some 14), (some (13, false)), .q (.mv (.t 0)), []⟩,
    ⟨(some 15), (some (13, false)), .q (.mv (.t 1)), []⟩,
    ⟨(some 16), (some (13, false)), .q (.bin .geq (.t 14) (.t 15)), []⟩,
    ⟨(some 17), none, .q (.pick (.t 13) (.v (.bool true)) (.t 16)), []⟩,
    ⟨(some 18), none, .q (.mv (.t 17)), []⟩,
    ⟨(some 19), (some (18, false)), .q (.mv (.t 1)), []⟩,
    ⟨(some 20), (some (18, false)), .q (.bin .geq (.t 19) (.v (.int .i64 700))), []⟩,
    ⟨(some 21), none, .q (.pick (.t 18) (.v (.bool true)) (.t 20)), []⟩]) Q a σ := id rfl
@[go_sem] theorem c4_2_wp (P : Program) (Q : APost) (a : AFr) (σ : ASt) : c4_2.wp P Q a σ = ACode.wp P (.ops [
    ⟨(some 22), none, .e (.call 11 []), []⟩,
    ⟨(some 4), none, .q (.mv (.t 22)), []⟩]) Q a σ := id rfl
@[go_sem] theorem c4_3_wp (P : Program) (Q : APost) (a : AFr) (σ : ASt) : c4_3.wp P Q a σ = ACode.wp P (.seq c4_2 .ret) Q a σ := id rfl
@[go_sem] theorem c4_4_wp (P : Program) (Q : APost) (a : AFr) (σ : ASt) : c4_4.wp P Q a σ = ACode.wp P (.cond (.t 21) c4_3 .skip) Q a σ := id rfl
@[go_sem] theorem c4_5_wp (P : Program) (Q : APost) (a : AFr) (σ : ASt) : c4_5.wp P Q a σ = ACode.wp P (.seq c4_1 c4_4) Q a σ := id rfl
@[go_sem] theorem c4_6_wp (P : Program) (Q : APost) (a : AFr) (σ : ASt) : c4_6.wp P Q a σ = ACode.wp P (.ops [
    ⟨(some 23), none, .q (.mv (.t 0)), []⟩,
    ⟨(some 24), none, .e (.call 12 [(.t 23)]), []⟩,
    ⟨(some 25), none, .q (.mv (.t 1)), []⟩,
    ⟨(some 26), none, .e (.call 12 [(.t 25)]), []⟩,
    ⟨(some 5), none, .q (.mv (.t 24)), []⟩,
    ⟨(some 6), none, .q (.mv (.t 26)), []⟩]) Q a σ := id rfl
@[go_sem] theorem c4_7_wp (P : Program) (Q : APost) (a : AFr) (σ : ASt) : c4_7.wp P Q a σ = ACode.wp P (.ops [
    ⟨(some 28), none, .q (.mv (.t 5)), []⟩,
    ⟨(some 29), none, .e (.call 9 [(.t 28)]), []⟩,
    ⟨(some 27), none, .q (.mv (.t 29)), []⟩,
    ⟨(some 30), none, .q (.ext 0 (.t 27)), []⟩,
    ⟨(some 31), none, .q (.ext 1 (.t 27)), []⟩,
    ⟨(some 7), none, .q (.mv (.t 30)), []⟩,
    ⟨(some 8), none, .q (.mv (.t 31)), []⟩]) Q a σ := id rfl
@[go_sem] theorem c4_8_wp (P : Program) (Q : APost) (a : AFr) (σ : ASt) : c4_8.wp P Q a σ = ACode.wp P (.ops [
    ⟨(some 33), none, .q (.mv (.t 6)), []⟩,
    ⟨(some 34), none, .e (.call 9 [(.t 33)]), []⟩,
    ⟨(some 32), none, .q (.mv (.t 34)), []⟩,
    ⟨(some 35), none, .q (.ext 0 (.t 32)), []⟩,
    ⟨(some 36), none, .q (.ext 1 (.t 32)), []⟩,
    ⟨(some 9), none, .q (.mv (.t 35)), []⟩,
    ⟨(some 10), none, .q (.mv (.t 36)), []⟩]) Q a σ := id rfl
@[go_sem] theorem c4_9_wp (P : Program) (Q : APost) (a : AFr) (σ : ASt) : c4_9.wp P Q a σ = ACode.wp P (.ops [
    ⟨(some 37), none, .e (.call 11 []), []⟩,
    ⟨(some 38), none, .q (.mv (.t 37)), []⟩,
    ⟨(some 39), (some (38, true)), .q (.mv (.t 8)), []⟩,
    ⟨(some 40), none, .q (.pick (.t 38) (.t 39) (.v (.bool false))), []⟩,
    ⟨(some 41), none, .q (.mv (.t 40)), []⟩,
    ⟨(some 42), (some (41, true)), .q (.mv (.t 10)), []⟩,
    ⟨(some 43), none, .q (.pick (.t 41) (.t 42) (.v (.bool false))), []⟩,
    ⟨(some 44), none, .q (.mv (.t 43)), []⟩,
    ⟨(some 45), (some (44, true)), .q (.mv (.t 7)), []⟩,
    ⟨(some 46), (some (44, true)), .q (.mv (.t 0)), []⟩,
    ⟨(some 47), (some (44, true)), .q (.bin .eql (.t 45) (.t 46)), []⟩,
    ⟨(some 48), none, .q (.pick (.t 44) (.t 47) (.v (.bool false))), []⟩,
    ⟨(some 49), none, .q (.mv (.t 48)), []⟩,
    ⟨(some 50), (some (49, true)), .q (.mv (.t 9)), []⟩,
    ⟨(some 51), (some (49, true)), .q (.mv (.t 1)), []⟩,
    ⟨(some 52), (some (49, true)), .q (.bin .eql (.t 50) (.t 51)), []⟩,
    ⟨(some 53), none, .q (.pick (.t 49) (.t 52) (.v (.bool false))), []⟩,
    ⟨(some 54), none, .q (.mv (.t 53)), []⟩,
    ⟨(some 55), (some (54, true)), .q (.mv (.t 5)), []⟩,
    ⟨(some 56), (some (54, true)), .q (.lenS (.t 55)), []⟩,
    ⟨(some 57), (some (54, true)), .q (.mv (.t 6)), []⟩,
    ⟨(some 58), (some (54, true)), .q (.lenS (.t 57)), []⟩,
    ⟨(some 59), (some (54, true)), .q (.bin .lss (.t 56) (.t 58)), []⟩,
    ⟨(some 60), (some (54, true)), .q (.mv (.t 59)), []⟩,
    ⟨(some 61), (some (60, false)), .q (.mv (.t 5)), []⟩,
    ⟨(some 62), (some (60, false)), .q (.lenS (.t 61)), []⟩,
    ⟨(some 63), (some (60, false)), .q (.mv (.t 6)), []⟩,
    ⟨(some 64), (some (60, false)), .q (.lenS (.t 63)), []⟩,
    ⟨(some 65), (some (60, false)), .q (.bin .eql (.t 62) (.t 64)), []⟩,
    ⟨(some 66), (some (60, false)), .q (.mv (.t 65)), []⟩,
    ⟨(some 67), (some (66, true)), .q (.mv (.t 5)), []⟩,
    ⟨(some 68), (some (66, true)), .q (.mv (.t 6)), []⟩,
    ⟨(some 69), (some (66, true)), .q (.bin .lss (.t 67) (.t 68)), []⟩,
    ⟨(some 70), (some (60, false)), .q (.pick (.t 66) (.t 69) (.v (.bool false))), []⟩,
    ⟨(some 71), (some (54, true)), .q (.pick (.t 60) (.v (.bool true)) (.t 70)), []⟩,
    ⟨(some 72), none, .q (.pick (.t 54) (.t 71) (.v (.bool false))), []⟩,
    ⟨(some 4), none, .q (.mv (.t 72)), []⟩]) Q a σ := id rfl
@[go_sem] theorem c4_10_wp (P : Program) (Q : APost) (a : AFr) (σ : ASt) : c4_10.wp P Q a σ = ACode.wp P (.seq c4_9 .ret) Q a σ := id rfl
@[go_sem] theorem c4_11_wp (P : Program) (Q : APost) (a : AFr) (σ : ASt) : c4_11.wp P Q a σ = ACode.wp P (.seq c4_8 c4_10) Q a σ := id rfl
@[go_sem] theorem c4_12_wp (P : Program) (Q : APost) (a : AFr) (σ : ASt) : c4_12.wp P Q a σ = ACode.wp P (.seq c4_7 c4_11) Q a σ := id rfl
@[go_sem] theorem c4_13_wp (P : Program) (Q : APost) (a : AFr) (σ : ASt) : c4_13.wp P Q a σ = ACode.wp P (.seq c4_6 c4_12) Q a σ := id rfl
@[go_sem] theorem c4_14_wp (P : Program) (Q : APost) (a : AFr) (σ : ASt) : c4_14.wp P Q a σ = ACode.wp P (.seq c4_5 c4_13) Q a σ := id rfl
@[go_sem] theorem c4_15_wp (P : Program) (Q : APost) (a : AFr) (σ : ASt) : c4_15.wp P Q a σ = ACode.wp P (.seq c4_0 c4_14) Q a σ := id rfl
def c4 : AFn := ⟨73, [.t 4], c4_15⟩
set_option maxRecDepth 100000 in
theorem c4_ok : compF Try.prog Try.f4 = some c4 := by kernel_rfl
theorem a4 {args : List AV} {σ : ASt} {R : AV → ASt → Prop} (hl : args.length ≤ 73) (h : c4_15.wp Try.prog (RetQ [.t 4] R) (init args) σ) : ACalls Try.prog 4 args σ R := acalls_of Try.func4 c4_ok hl h

/-! 5: tabular/tabularlaw10.AddrNorm -/
def c5_0 : ACode := .ops [
    ⟨(some 4), none, .e (.box (.t 0)), []⟩,
    ⟨(some 5), none, .e (.box (.t 1)), []⟩,
    ⟨(some 8), none, .q (.mv (.v (.bool false))), []⟩]
def c5_1 : ACode := .ops [
    ⟨(some 13), none, .q (.ld (some 4) (.t 4)), []⟩,
    ⟨(some 14), none, .e (.call 14 [(.t 13)]), []⟩,
    ⟨(some 15), none, .q (.un .not (.t 14)), []⟩,
    ⟨(some 16), none, .q (.mv (.t 15)), []⟩,
    ⟨(some 17), (some (16, false)), .q (.ld (some 4) (.t 5)), []⟩,
    ⟨(some 18), (some (16, false)), .e (.call 14 [(.t 17)]), []⟩,
    ⟨(some 19), (some (16, false)), .q (.un .not (.t 18)), []⟩,
    ⟨(some 20), none, .q (.pick (.t 16) (.v (.bool true)) (.t 19)), []⟩]
def c5_2 : ACode := .ops [
    ⟨(some 21), none, .e (.call 11 []), []⟩,
    ⟨(some 8), none, .q (.mv (.t 21)), []⟩]
def c5_3 : ACode := .seq c5_2 .ret
def c5_4 : ACode := .cond (.t 20) c5_3 .skip
def c5_5 : ACode := .seq c5_1 c5_4
def c5_6 : ACode := .ops [
    ⟨(some 22), none, .q (.ld (some 4) (.t 4)), []⟩,
    ⟨(some 23), none, .q (.ld (some 4) (.t 5)), []⟩,
    ⟨(some 24), none, .q (.build [(.int .i64 0), (.int .i64 0), (.bool false), (.bool false), (.int .i64 0), (.int .i64 0), (.bool false), (.bool false)] [(0, 4, (.t 22)), (4, 4, (.t 23))]), []⟩,
    ⟨(some 9), none, .e (.alloc [(.int .i64 0), (.int .i64 0), (.bool false), (.bool false), (.int .i64 0), (.int .i64 0), (.bool false), (.bool false)]), []⟩,
    ⟨none, none, .e (.store 8 (.t 9) (.t 24)), []⟩]
def c5_7 : ACode := .ops [
    ⟨(some 25), none, .q (.ld (some 8) (.t 9)), []⟩,
    ⟨(some 26), none, .e (.call 15 [(.t 25)]), []⟩,
    ⟨(some 10), none, .e (.alloc [(.int .i64 0), (.int .i64 0), (.bool false), (.bool false), (.int .i64 0), (.int .i64 0), (.bool false), (.bool false)]), []⟩,
    ⟨none, none, .e (.store 8 (.t 10) (.t 26)), []⟩]
def c5_8 : ACode := .ops [
    ⟨(some 27), none, .q (.ld (some 4) (.t 5)), []⟩,
    ⟨(some 28), none, .q (.ld (some 4) (.t 4)), []⟩,
    ⟨(some 29), none, .q (.build [(.int .i64 0), (.int .i64 0), (.bool false), (.bool false), (.int .i64 0), (.int .i64 0), (.bool false), (.bool false)] [(0, 4, (.t 27)), (4, 4, (.t 28))]), []⟩,
    ⟨(some 11), none, .e (.alloc [(.int .i64 0), (.int .i64 0), (.bool false), (.bool false), (.int .i64 0), (.int .i64 0), (.bool false), (.bool false)]), []⟩,
    ⟨none, none, .e (.store 8 (.t 11) (.t 29)), []⟩]
def c5_9 : ACode := .ops [
    ⟨(some 30), none, .q (.mv (.t 2)), []⟩,
    ⟨(some 31), none, .q (.fa 0 (.t 4)), []⟩,
    ⟨(some 32), none, .q (.ld none (.t 31)), []⟩,
    ⟨(some 33), none, .q (.fa 0 (.t 5)), []⟩,
    ⟨(some 34), none, .q (.ld none (.t 33)), []⟩,
    ⟨(some 35), none, .q (.mnx false (.t 32) (.t 34)), []⟩,
    ⟨(some 36), none, .q (.bin .geq (.t 30) (.t 35)), []⟩,
    ⟨(some 37), none, .q (.mv (.t 36)), []⟩,
    ⟨(some 38), (some (37, true)), .q (.mv (.t 2)), []⟩,
    ⟨(some 39), (some (37, true)), .q (.fa 0 (.t 4)), []⟩,
    ⟨(some 40), (some (37, true)), .q (.ld none (.t 39)), []⟩,
    ⟨(some 41), (some (37, true)), .q (.fa 0 (.t 5)), []⟩,
    ⟨(some 42), (some (37, true)), .q (.ld none (.t 41)), []⟩,
    ⟨(some 43), (some (37, true)), .q (.mnx true (.t 40) (.t 42)), []⟩,
    ⟨(some 44), (some (37, true)), .q (.bin .leq (.t 38) (.t 43)), []⟩,
    ⟨(some 45), none, .q (.pick (.t 37) (.t 44) (.v (.bool false))), []⟩,
    ⟨(some 46), none, .q (.mv (.t 45)), []⟩,
    ⟨(some 47), (some (46, true)), .q (.mv (.t 3)), []⟩,
    ⟨(some 48), (some (46, true)), .q (.fa 1 (.t 4)), []⟩,
    ⟨(some 49), (some (46, true)), .q (.ld none (.t 48)), []⟩,
    ⟨(some 50), (some (46, true)), .q (.fa 1 (.t 5)), []⟩,
    ⟨(some 51), (some (46, true)), .q (.ld none (.t 50)), []⟩,
    ⟨(some 52), (some (46, true)), .q (.mnx false (.t 49) (.t 51)), []⟩,
    ⟨(some 53), (some (46, true)), .q (.bin .geq (.t 47) (.t 52)), []⟩,
    ⟨(some 54), none, .q (.pick (.t 46) (.t 53) (.v (.bool false))), []⟩,
    ⟨(some 55), none, .q (.mv (.t 54)), []⟩,
    ⟨(some 56), (some (55, true)), .q (.mv (.t 3)), []⟩,
    ⟨(some 57), (some (55, true)), .q (.fa 1 (.t 4)), []⟩,
    ⟨(some 58), (some (55, true)), .q (.ld none (.t 57)), []⟩,
    ⟨(some 59), (some (55, true)), .q (.fa 1 (.t 5)), []⟩,
    ⟨(some 60), (some (55, true)), .q (.ld none (.t 59)), []⟩,
    ⟨(some 61), (some (55, true)), .q (.mnx true (.t 58) (.t 60)), []⟩,
    ⟨(some 62), (some (55, true)), .q (.bin .leq (.t 56) (.t 61)), []⟩,
    ⟨(some 63), none, .q (.pick (.t 55) (.t 62) (.v (.bool false))), []⟩,
    ⟨(some 12), none, .q (.mv (.t 63)), []⟩]
def c5_10 : ACode := .ops [
    ⟨(some 64), none, .e (.call 11 []), []⟩,
    ⟨(some 65), none, .q (.mv (.t 64)), []⟩,
    ⟨(some 66), (some (65, true)), .q (.ld (some 8) (.t 10)), []⟩,
    ⟨(some 68), (some (65, true)), .q (.ld (some 8) (.t 10)), []⟩,
    ⟨(some 67), (some (65, true)), .e (.call 15 [(.t 66)]), [⟨(some (65, true)), .ld (some 8) (.t 10), 68⟩]⟩,
    ⟨(some 69), (some (65, true)), .q (.eqs false [(0, 0), (1, 0), (2, 1), (3, 1), (4, 0), (5, 0), (6, 1), (7, 1)] (.t 67) (.t 68)), []⟩,
    ⟨(some 70), none, .q (.pick (.t 65) (.t 69) (.v (.bool false))), []⟩,
    ⟨(some 71), none, .q (.mv (.t 70)), []⟩,
    ⟨(some 72), (some (71, true)), .q (.ld (some 8) (.t 10)), []⟩,
    ⟨(some 74), (some (71, true)), .q (.ld (some 8) (.t 9)), []⟩,
    ⟨(some 73), (some (71, true)), .e (.call 16 [(.t 72)]), [⟨(some (71, true)), .ld (some 8) (.t 9), 74⟩]⟩,
    ⟨(some 75), (some (71, true)), .e (.call 16 [(.t 74)]), []⟩,
    ⟨(some 76), (some (71, true)), .q (.eqs false [(0, 0), (1, 0), (2, 0), (3, 0)] (.t 73) (.t 75)), []⟩,
    ⟨(some 77), none, .q (.pick (.t 71) (.t 76) (.v (.bool false))), []⟩,
    ⟨(some 78), none, .q (.mv (.t 77)), []⟩,
    ⟨(some 79), (some (78, true)), .q (.ld (some 8) (.t 11)), []⟩,
    ⟨(some 81), (some (78, true)), .q (.ld (some 8) (.t 9)), []⟩,
    ⟨(some 80), (some (78, true)), .e (.call 16 [(.t 79)]), [⟨(some (78, true)), .ld (some 8) (.t 9), 81⟩]⟩,
    ⟨(some 82), (some (78, true)), .e (.call 16 [(.t 81)]), []⟩,
    ⟨(some 83), (some (78, true)), .q (.eqs false [(0, 0), (1, 0), (2, 0), (3, 0)] (.t 80) (.t 82)), []⟩,
    ⟨(some 84), none, .q (.pick (.t 78) (.t 83) (.v (.bool false))), []⟩,
    ⟨(some 85), none, .q (.mv (.t 84)), []⟩,
    ⟨(some 86), (some (85, true)), .q (.ld (some 8) (.t 9)), []⟩,
    ⟨(some 88), (some (85, true)), .q (.mv (.t 2)), []⟩,
    ⟨(some 89), (some (85, true)), .q (.mv (.t 3)), []⟩,
    ⟨(some 91), (some (85, true)), .q (.mv (.t 12)), []⟩,
    ⟨(some 87), (some (85, true)), .e (.call 16 [(.t 86)]), []⟩,
    ⟨(some 90), (some (85, true)), .e (.call 17 [(.t 87), (.t 88), (.t 89)]), []⟩,
    ⟨(some 92), (some (85, true)), .q (.eq .b false (.t 90) (.t 91)), []⟩,
    ⟨(some 93), none, .q (.pick (.t 85) (.t 92) (.v (.bool false))), []⟩,
    ⟨(some 94), none, .q (.mv (.t 93)), []⟩,
    ⟨(some 95), (some (94, true)), .q (.ld (some 8) (.t 9)), []⟩,
    ⟨(some 96), (some (94, true)), .e (.call 16 [(.t 95)]), []⟩,
    ⟨(some 97), (some (94, true)), .e (.call 18 [(.t 96)]), []⟩,
    ⟨(some 98), none, .q (.pick (.t 94) (.t 97) (.v (.bool false))), []⟩,
    ⟨(some 99), none, .q (.mv (.t 98)), []⟩,
    ⟨(some 100), (some (99, true)), .q (.fa 0 (.t 10)), []⟩,
    ⟨(some 101), (some (99, true)), .q (.fa 0 (.t 100)), []⟩,
    ⟨(some 102), (some (99, true)), .q (.ld none (.t 101)), []⟩,
    ⟨(some 103), (some (99, true)), .q (.fa 4 (.t 10)), []⟩,
    ⟨(some 104), (some (99, true)), .q (.fa 0 (.t 103)), []⟩,
    ⟨(some 105), (some (99, true)), .q (.ld none (.t 104)), []⟩,
    ⟨(some 106), (some (99, true)), .q (.bin .leq (.t 102) (.t 105)), []⟩,
    ⟨(some 107), none, .q (.pick (.t 99) (.t 106) (.v (.bool false))), []⟩,
    ⟨(some 108), none, .q (.mv (.t 107)), []⟩,
    ⟨(some 109), (some (108, true)), .q (.fa 0 (.t 10)), []⟩,
    ⟨(some 110), (some (108, true)), .q (.fa 1 (.t 109)), []⟩,
    ⟨(some 111), (some (108, true)), .q (.ld none (.t 110)), []⟩,
    ⟨(some 112), (some (108, true)), .q (.fa 4 (.t 10)), []⟩,
    ⟨(some 113), (some (108, true)), .q (.fa 1 (.t 112)), []⟩,
    ⟨(some 114), (some (108, true)), .q (.ld none (.t 113)), []⟩,
    ⟨(some 115), (some (108, true)), .q (.bin .leq (.t 111) (.t 114)), []⟩,
    ⟨(some 116), none, .q (.pick (.t 108) (.t 115) (.v (.bool false))), []⟩,
    ⟨(some 8), none, .q (.mv (.t 116)), []⟩]
def c5_11 : ACode := .seq c5_10 .ret
def c5_12 : ACode := .seq c5_9 c5_11
def c5_13 : ACode := .seq c5_8 c5_12
def c5_14 : ACode := .seq c5_7 c5_13
def c5_15 : ACode := .seq c5_6 c5_14
def c5_16 : ACode := .seq c5_5 c5_15
def c5_17 : ACode := .seq c5_0 c5_16
@[go_sem] theorem c5_0_wp (P : Program) (Q : APost) (a : AFr) (σ : ASt) : c5_0.wp P Q a σ = ACode.wp P (.ops [
    ⟨(some 4), none, .e (.box (.t 0)), []⟩,
    ⟨(some 5), none, .e (.box (.t 1)), []⟩,
    ⟨(some 8), none, .q (.mv (.v (.bool false))), []⟩]) Q a σ := id rfl
@[go_sem] theorem c5_1_wp (P : Program) (Q : APost) (a : AFr) (σ : ASt) : c5_1.wp P Q a σ = ACode.wp P (.ops [
    ⟨(some 13), none, .q (.ld (some 4) (.t 4)), []⟩,
    ⟨(some 14), none, .e (.call 14 [(.t 13)]), []⟩,
    ⟨(some 15), none, .q (.un .not (.t 14)), []⟩,
    ⟨(some 16), none, .q (.mv (.t 15)), []⟩,
    ⟨(some 17), (some (16, false)), .q (.ld (some 4) (.t 5)), []⟩,
    ⟨(some 18), (some (16, false)), .e (.call 14 [(.t 17)]), []⟩,
    ⟨(some 19), (some (16, false)), .q (.un .not (.t 18)), []⟩,
    ⟨(some 20), none, .q (.pick (.t 16) (.v (.bool true)) (.t 19)), []⟩]) Q a σ := id rfl
@[go_sem] theorem c5_2_wp (P : Program) (Q : APost) (a : AFr) (σ : ASt) : c5_2.wp P Q a σ = ACode.wp P (.ops [
    ⟨(some 21), none, .e (.call 11 []), []⟩,
    ⟨(some 8), none, .q (.mv (.t 21)), []⟩]) Q a σ := id rfl
@[go_sem] theorem c5_3_wp (P : Program) (Q : APost) (a : AFr) (σ : ASt) : c5_3.wp P Q a σ = ACode.wp P (.seq c5_2 .ret) Q a σ := id rfl
@[go_sem] theorem c5_4_wp (P : Program) (Q : APost) (a : AFr) (σ : ASt) : c5_4.wp P Q a σ = ACode.wp P (.cond (.t 20) c5_3 .skip) Q a σ := id rfl
@[go_sem] theorem c5_5_wp (P : Program) (Q : APost) (a : AFr) (σ : ASt) : c5_5.wp P Q a σ = ACode.wp P (.seq c5_1 c5_4) Q a σ := id rfl
@[go_sem] theorem c5_6_wp (P : Program) (Q : APost) (a : AFr) (σ : ASt) : c5_6.wp P Q a σ = ACode.wp P (.ops [
    ⟨(some 22), none, .q (.ld (some 4) (.t 4)), []⟩,
    ⟨(some 23), none, .q (.ld (some 4) (.t 5)), []⟩,
    ⟨(some 24), none, .q (.build [(.int .i64 0), (.int .i64 0), (.bool false), (.bool false), (.int .i64 0), (.int .i64 0), (.bool false), (.bool false)] [(0, 4, (.t 22)), (4, 4, (.t 23))]), []⟩,
    ⟨(some 9), none, .e (.alloc [(.int .i64 0), (.int .i64 0), (.bool false), (.bool false), (.int .i64 0), (.int .i64 0), (.bool false), (.bool false)]), []⟩,
    ⟨none, none, .e (.store 8 (.t 9) (.t 24)), []⟩]) Q a σ := id rfl
@[go_sem] theorem c5_7_wp (P : Program) (Q : APost) (a : AFr) (σ : ASt) : c5_7.wp P Q a σ = ACode.wp P (.ops [
    ⟨(some 25), none, .q (.ld (some 8) (.t 9)), []⟩,
    ⟨(some 26), none, .e (.call 15 [(.t 25)]), []⟩,
    ⟨(some 10), none, .e (.alloc [(.int .i64 0), (.int .i64 0), (.bool false), (.bool false), (.int .i64 0), (.int .i64 0), (.bool false), (.bool false)]), []⟩,
    ⟨none, none, .e (.store 8 (.t 10) (.t 26)), []⟩]) Q a σ := id rfl
@[go_sem] theorem c5_8_wp (P : Program) (Q : APost) (a : AFr) (σ : ASt) : c5_8.wp P Q a σ = ACode.wp P (.ops [
    ⟨(some 27), none, .q (.ld (some 4) (.t 5)), []⟩,
    ⟨(some 28), none, .q (.ld (some 4) (.t 4)), []⟩,
    ⟨(some 29), none, .q (.build [(.int .i64 0), (.int .i64 0), (.bool false), (.bool false), (.int .i64 0), (.int .i64 0), (.bool false), (.bool false)] [(0, 4, (.t 27)), (4, 4, (.t 28))]), []⟩,
    ⟨(some 11), none, .e (.alloc [(.int .i64 0), (.int .i64 0), (.bool false), (.bool false), (.int .i64 0), (.int .i64 0), (.bool false), (.bool false)]), []⟩,
    ⟨none, none, .e (.store 8 (.t 11) (.t 29)), []⟩]) Q a σ := id rfl
@[go_sem] theorem c5_9_wp (P : Program) (Q : APost) (a : AFr) (σ : ASt) : c5_9.wp P Q a σ = ACode.wp P (.ops [
    ⟨(some 30), none, .q (.mv (.t 2)), []⟩,
    ⟨(some 31), none, .q (.fa 0 (.t 4)), []⟩,
    ⟨(some 32), none, .q (.ld none (.t 31)), []⟩,
    ⟨(some 33), none, .q (.fa 0 (.t 5)), []⟩,
    ⟨(some 34), none, .q (.ld none (.t 33)), []⟩,
    ⟨(some 35), none, .q (.mnx false (.t 32) (.t 34)), []⟩,
    ⟨(some 36), none, .q (.bin .geq (.t 30) (.t 35)), []⟩,
    ⟨(some 37), none, .q (.mv (.t 36)), []⟩,
    ⟨(some 38), (some (37, true)), .q (.mv (.t 2)), []⟩,
    ⟨(some 39), (some (37, true)), .q (.fa 0 (.t 4)), []⟩,
    ⟨(some 40), (some (37, true)), .q (.ld none (.t 39)), []⟩,
    ⟨(some 41), (some (37, true)), .q (.fa 0 (.t 5)), []⟩,
    ⟨(some 42), (some (37, true)), .q (.ld none (.t 41)), []⟩,
    ⟨(some 43), (some (37, true)), .q (.mnx true (.t 40) (.t 42)), []⟩,
    ⟨(some 44), (some (37, true)), .q (.bin .leq (.t 38) (.t 43)), []⟩,
    ⟨(some 45), none, .q (.pick (.t 37) (.t 44) (.v (.bool false))), []⟩,
    ⟨(some 46), none, .q (.mv (.t 45)), []⟩,
    ⟨(some 47), (some (46, true)), .q (.mv (.t 3)), []⟩,
    ⟨(some 48), (some (46, true)), .q (.fa 1 (.t 4)), []⟩,
    ⟨(some 49), (some (46, true)), .q (.ld none (.t 48)), []⟩,
    ⟨(some 50), (some (46, true)), .q (.fa 1 (.t 5)), []⟩,
    ⟨(some 51), (some (46, true)), .q (.ld none (.t 50)), []⟩,
    ⟨(some 52), (some (46, true)), .q (.mnx false (.t 49) (.t 51)), []⟩,
    ⟨(some 53), (some (46, true)), .q (.bin .geq (.t 47) (.t 52)), []⟩,
    ⟨(some 54), none, .q (.pick (.t 46) (.t 53) (.v (.bool false))), []⟩,
    ⟨(some 55), none, .q (.mv (.t 54)), []⟩,
    ⟨(some 56), (some (55, true)), .q (.mv (.t 3)), []⟩,
    ⟨(some 57), (some (55, true)), .q (.fa 1 (.t 4)), []⟩,
    ⟨(some 58), (some (55, true)), .q (.ld none (.t 57)), []⟩,
    ⟨(some 59), (some (55, true)), .q (.fa 1 (.t 5)), []⟩,
    ⟨(some 60), (some (55, true)), .q (.ld none (.t 59)), []⟩,
    ⟨(some 61), (some (55, true)), .q (.mnx true (.t 58) (.t 60)), []⟩,
    ⟨(some 62), (some (55, true)), .q (.bin .leq (.t 56) (.t 61)), []⟩,
    ⟨(some 63), none, .q (.pick (.t 55) (.t 62) (.v (.bool false))), []⟩,
    ⟨(some 12), none, .q (.mv (.t 63)), []⟩]) Q a σ := id rfl
@[go_sem] theorem c5_10_wp (P : Program) (Q : APost) (a : AFr) (σ : ASt) : c5_10.wp P Q a σ = ACode.wp P (.ops [
    ⟨(some 64), none, .e (.call 11 []), []⟩,
    ⟨(some 65), none, .q (.mv (.t 64)), []⟩,
    ⟨(some 66), (some (65, true)), .q (.ld (some 8) (.t 10)), []⟩,
    ⟨(some 68), (some (65, true)), .q (.ld (some 8) (.t 10)), []⟩,
    ⟨(some 67), (some (65, true)), .e (.call 15 [(.t 66)]), [⟨(some (65, true)), .ld (some 8) (.t 10), 68⟩]⟩,
    ⟨(some 69), (some (65, true)), .q (.eqs false [(0, 0), (1, 0), (2, 1), (3, 1), (4, 0), (5, 0), (6, 1), (7, 1)] (.t 67) (.t 68)), []⟩,
    ⟨(some 70), none, .q (.pick (.t 65) (.t 69) (.v (.bool false))), []⟩,
    ⟨(some 71), none, .q (.mv (.t 70)), []⟩,
    ⟨(some 72), (some (71, true)), .q (.ld (some 8) (.t 10)), []⟩,
    ⟨(some 74), (some (71, true)), .q (.ld (some 8) (.t 9)), []⟩,
    ⟨(some 73), (some (71, true)), .e (.call 16 [(.t 72)]), [⟨(some (71, true)), .ld (some 8) (.t 9), 74⟩]⟩,
    ⟨(some 75), (some (71, true)), .e (.call 16 [(.t 74)]), []⟩,
    ⟨(some 76), (some (71, true)), .q (.eqs false [(0, 0), (1, 0), (2, 0), (3, 0)] (.t 73) (.t 75)), []⟩,
    ⟨(some 77), none, .q (.pick (.t 71) (.t 76) (.v (.bool false))), []⟩,
    ⟨(some 78), none, .q (.mv (.t 77)), []⟩,
    ⟨(some 79), (some (78, true)), .q (.ld (some 8) (.t 11)), []⟩,
    ⟨(some 81), (some (78, true)), .q (.ld (some 8) (.t 9)), []⟩,
    ⟨(some 80), (some (78, true)), .e (.call 16 [(.t 79)]), [⟨(some (78, true)), .ld (some 8) (.t 9), 81⟩]⟩,
    ⟨(some 82), (some (78, true)), .e (.call 16 [(.t 81)]), []⟩,
    ⟨(some 83), (some (78, true)), .q (.eqs false [(0, 0), (1, 0), (2, 0), (3, 0)] (.t 80) (.t 82)), []⟩,
    ⟨(some 84), none, .q (.pick (.t 78) (.t 83) (.v (.bool false))), []⟩,
    ⟨(some 85), none, .q (.mv (.t 84)), []⟩,
    ⟨(some 86), (some (85, true)), .q (.ld (some 8) (.t 9)), []⟩,
    ⟨(some 88), (some (85, true)), .q (.mv (.t 2)), []⟩,
    ⟨(some 89), (some (85, true)), .q (.mv (.t 3)), []⟩,
    ⟨(some 91), (some (85, true)), .q (.mv (.t 12)), []⟩,
    ⟨(some 87), (some (85, true)), .e (.call 16 [(.t 86)]), []⟩,
    ⟨(some 90), (some (85, true)), .e (.call 17 [(.t 87), (.t 88), (.t 89)]), []⟩,
    ⟨(some 92), (some (85, true)), .q (.eq .b false (.t 90) (.t 91)), []⟩,
    ⟨(some 93), none, .q (.pick (.t 85) (.t 92) (.v (.bool false))), []⟩,
    ⟨(some 94), none, .q (.mv (.t 93)), []⟩,
    ⟨(some 95), (some (94, true)), .q (.ld (some 8) (.t 9)), []⟩,
    ⟨(some 96), (some (94, true)), .e (.call 16 [(.t 95)]), []⟩,
    ⟨(some 97), (some (94, true)), .e (.call 18 [(.t 96)]), []⟩,
    ⟨(some 98), none, .q (.pick (.t 94) (.t 97) (.v (.bool false))), []⟩,
    ⟨(some 99), none, .q (.mv (.t 98)), []⟩,
    ⟨(some 100), (some (99, true)), .q (.fa 0 (.t 10)), []⟩,
    ⟨(some 101), (some (99, true)), .q (.fa 0 (.t 100)), []⟩,
    ⟨(some 102), (some (99, true)), .q (.ld none (.t 101)), []⟩,
    ⟨(some 103), (some (99, true)), .q (.fa 4 (.t 10)), []⟩,
    ⟨(some 104), (some (99, true)), .q (.fa 0 (.t 103)), []⟩,
    ⟨(some 105), (some (99, true)), .q (.ld none (.t 104)), []⟩,
    ⟨(some 106), (some (99, true)), .q (.bin .leq (.t 102) (.t 105)), []⟩,
    ⟨(some 107), none, .q (.pick (.t 99) (.t 106) (.v (.bool false))), []⟩,
    ⟨(some 108), none, .q (.mv (.t 107)), []⟩,
    ⟨(some 109), (some (108, true)), .q (.fa 0 (.t 10)), []⟩,
    ⟨(some 110), (some (108, true)), .q (.fa 1 (.t 109)), []⟩,
    ⟨(some 111), (some (108, true)), .q (.ld none (.t 110)), []⟩,
    ⟨(some 112), (some (108, true)), .q (.fa 4 (.t 10)), []⟩,
    ⟨(some 113), (some (108, true)), .q (.fa 1 (.t 112)), []⟩,
    ⟨(some 114), (some (108, true)), .q (.ld none (.t 113)), []⟩,
    ⟨(some 115), (some (108, true)), .q (.bin .leq (.t 111) (.t 114)), []⟩,
    ⟨(some 116), none, .q (.pick (.t 108) (.t 115) (.v (.bool false))), []⟩,
    ⟨(some 8), none, .q (.mv (.t 116)), []⟩]) Q a σ := id rfl
@[go_sem] theorem c5_11_wp (P : Program) (Q : APost) (a : AFr) (σ : ASt) : c5_11.wp P Q a σ = ACode.wp P (.seq c5_10 .ret) Q a σ := id rfl
@[go_sem] theorem c5_12_wp (P : Program) (Q : APost) (a : AFr) (σ : ASt) : c5_12.wp P Q a σ = ACode.wp P (.seq c5_9 c5_11) Q a σ := id rfl
@[go_sem] theorem c5_13_wp (P : Program) (Q : APost) (a : AFr) (σ : ASt) : c5_13.wp P Q a σ = ACode.wp P (.seq c5_8 c5_12) Q a σ := id rfl
@[go_sem] theorem c5_14_wp (P : Program) (Q : APost) (a : AFr) (σ : ASt) : c5_14.wp P Q a σ = ACode.wp P (.seq c5_7 c5_13) Q a σ := id rfl
@[go_sem] theorem c5_15_wp (P : Program) (Q : APost) (a : AFr) (σ : ASt) : c5_15.wp P Q a σ = ACode.wp P (.seq c5_6 c5_14) Q a σ := id rfl
@[go_sem] theorem c5_16_wp (P : Program) (Q : APost) (a : AFr) (σ : ASt) : c5_16.wp P Q a σ = ACode.wp P (.seq c5_5 c5_15) Q a σ := id rfl
@[go_sem] theorem c5_17_wp (P : Program) (Q : APost) (a : AFr) (σ : ASt) : c5_17.wp P Q a σ = ACode.wp P (.seq c5_0 c5_16) Q a σ := id rfl
def c5 : AFn := ⟨117, [.t 8], c5_17⟩
set_option maxRecDepth 100000 in
theorem c5_ok : compF Try.prog Try.f5 = some c5 := by kernel_rfl
theorem a5 {args : List AV} {σ : ASt} {R : AV → ASt → Prop} (hl : args.length ≤ 117) (h : c5_17.wp Try.prog (RetQ [.t 8] R) (init args) σ) : ACalls Try.prog 5 args σ R := acalls_of Try.func5 c5_ok hl h

/-! 6: tabular/tabularlaw10.AddrThere -/
def c6_0 : ACode := .ops [
    ⟨(some 3), none, .e (.box (.t 0)), []⟩,
    ⟨(some 6), none, .q (.mv (.v (.bool false))), []⟩]
def c6_1 : ACode := .ops [
    ⟨(some 11), none, .q (.ld (some 4) (.t 3)), []⟩,
    ⟨(some 12), none, .e (.call 14 [(.t 11)]), []⟩,
    ⟨(some 13), none, .q (.un .not (.t 12)), []⟩,
    ⟨(some 14), none, .q (.mv (.t 13)), []⟩,
    ⟨(some 15), (some (14, false)), .q (.mv (.t 1)), []⟩,
    ⟨(some 16), (some (14, false)), .q (.bin .lss (.t 15) (.v (.int .i64 (-3000)))), []⟩,
    ⟨(some 17), none, .q (.pick (.t 14) (.v (.bool true)) (.t 16)), []⟩,
    ⟨(some 18), none, .q (.mv (.t 17)), []⟩,
    ⟨(some 19), (some (18, false)), .q (.mv (.t 1)), []⟩,
    ⟨(some 20), (some (18, false)), .q (.bin .gtr (.t 19) (.v (.int .i64 3000))), []⟩,
    ⟨(some 21), none, .q (.pick (.t 18) (.v (.bool true)) (.t 20)), []⟩,
    ⟨(some 22), none, .q (.mv (.t 21)), []⟩,
    ⟨(some 23), (some (22, false)), .q (.mv (.t 2)), []⟩,
    ⟨(some 24), (some (22, false)), .q (.bin .lss (.t 23) (.v (.int .i64 (-700)))), []⟩,
    ⟨(some 25), none, .q (.pick (.t 22) (.v (.bool true)) (.t 24)), []⟩,
    ⟨(some 26), none, .q (.mv (.t 25)), []⟩,
    ⟨(some 27), (some (26, false)), .q (.mv (.t 2)), []⟩,
    ⟨(some 28), (some (26, false)), .q (.bin .gtr (.t 27) (.v (.int .i64 700))), []⟩,
    ⟨(some 29), none, .q (.pick (.t 26) (.v (.bool true)) (.t 28)), []⟩]
def c6_2 : ACode := .ops [
    ⟨(some 30), none, .e (.call 11 []), []⟩,
    ⟨(some 6), none, .q (.mv (.t 30)), []⟩]
def c6_3 : ACode := .seq c6_2 .ret
def c6_4 : ACode := .cond (.t 29) c6_3 .skip
def c6_5 : ACode := .seq c6_1 c6_4
def c6_6 : ACode := .ops [
    ⟨(some 32), none, .q (.ld (some 4) (.t 3)), []⟩,
    ⟨(some 33), none, .q (.mv (.t 1)), []⟩,
    ⟨(some 34), none, .q (.mv (.t 2)), []⟩,
    ⟨(some 35), none, .e (.call 19 [(.t 32), (.t 33), (.t 34)]), []⟩,
    ⟨(some 31), none, .q (.mv (.t 35)), []⟩,
    ⟨(some 36), none, .q (.ext 0 (.t 31)), []⟩,
    ⟨(some 37), none, .q (.ext 1 (.t 31)), []⟩,
    ⟨(some 7), none, .e (.alloc [(.int .i64 0), (.int .i64 0), (.bool false), (.bool false)]), []⟩,
    ⟨none, none, .e (.store 4 (.t 7) (.t 36)), []⟩,
    ⟨(some 8), none, .q (.mv (.t 37)), []⟩]
def c6_7 : ACode := .ops [
    ⟨(some 38), none, .q (.mv (.t 8)), []⟩,
    ⟨(some 39), none, .q (.un .not (.t 38)), []⟩]
def c6_8 : ACode := .ops [
    ⟨(some 40), none, .e (.call 11 []), []⟩,
    ⟨(some 41), none, .q (.mv (.t 40)), []⟩,
    ⟨(some 42), (some (41, true)), .q (.ld (some 4) (.t 7)), []⟩,
    ⟨(some 43), (some (41, true)), .q (.build [(.int .i64 0), (.int .i64 0), (.bool false), (.bool false)] []), []⟩,
    ⟨(some 44), (some (41, true)), .q (.eqs false [(0, 0), (1, 0), (2, 1), (3, 1)] (.t 42) (.t 43)), []⟩,
    ⟨(some 45), none, .q (.pick (.t 41) (.t 44) (.v (.bool false))), []⟩,
    ⟨(some 6), none, .q (.mv (.t 45)), []⟩]
def c6_9 : ACode := .seq c6_8 .ret
def c6_10 : ACode := .cond (.t 39) c6_9 .skip
def c6_11 : ACode := .seq c6_7 c6_10
def c6_12 : ACode := .ops [
    ⟨(some 47), none, .q (.ld (some 4) (.t 7)), []⟩,
    ⟨(some 48), none, .q (.mv (.t 1)), []⟩,
    ⟨(some 49), none, .q (.un .neg (.t 48)), []⟩,
    ⟨(some 50), none, .q (.mv (.t 2)), []⟩,
    ⟨(some 51), none, .q (.un .neg (.t 50)), []⟩,
    ⟨(some 52), none, .e (.call 19 [(.t 47), (.t 49), (.t 51)]), []⟩,
    ⟨(some 46), none, .q (.mv (.t 52)), []⟩,
    ⟨(some 53), none, .q (.ext 0 (.t 46)), []⟩,
    ⟨(some 54), none, .q (.ext 1 (.t 46)), []⟩,
    ⟨(some 9), none, .e (.alloc [(.int .i64 0), (.int .i64 0), (.bool false), (.bool false)]), []⟩,
    ⟨none, none, .e (.store 4 (.t 9) (.t 53)), []⟩,
    ⟨(some 10), none, .q (.mv (.t 54)), []⟩]
def c6_13 : ACode := .ops [
    ⟨(some 55), none, .e (.call 11 []), []⟩,
    ⟨(some 56), none, .q (.mv (.t 55)), []⟩,
    ⟨(some 57), (some (56, true)), .q (.mv (.t 10)), []⟩,
    ⟨(some 58), none, .q (.pick (.t 56) (.t 57) (.v (.bool false))), []⟩,
    ⟨(some 59), none, .q (.mv (.t 58)), []⟩,
    ⟨(some 60), (some (59, true)), .q (.ld (some 4) (.t 9)), []⟩,
    ⟨(some 61), (some (59, true)), .q (.ld (some 4) (.t 3)), []⟩,
    ⟨(some 62), (some (59, true)), .q (.eqs false [(0, 0), (1, 0), (2, 1), (3, 1)] (.t 60) (.t 61)), []⟩,
    ⟨(some 63), none, .q (.pick (.t 59) (.t 62) (.v (.bool false))), []⟩,
    ⟨(some 64), none, .q (.mv (.t 63)), []⟩,
    ⟨(some 65), (some (64, true)), .q (.fa 2 (.t 3)), []⟩,
    ⟨(some 66), (some (64, true)), .q (.ld none (.t 65)), []⟩,
    ⟨(some 67), (some (64, true)), .q (.un .not (.t 66)), []⟩,
    ⟨(some 68), (some (64, true)), .q (.mv (.t 67)), []⟩,
    ⟨(some 69), (some (68, false)), .q (.fa 0 (.t 7)), []⟩,
    ⟨(some 70), (some (68, false)), .q (.ld none (.t 69)), []⟩,
    ⟨(some 71), (some (68, false)), .q (.fa 0 (.t 3)), []⟩,
    ⟨(some 72), (some (68, false)), .q (.ld none (.t 71)), []⟩,
    ⟨(some 73), (some (68, false)), .q (.bin .eql (.t 70) (.t 72)), []⟩,
    ⟨(some 74), (some (64, true)), .q (.pick (.t 68) (.v (.bool true)) (.t 73)), []⟩,
    ⟨(some 75), none, .q (.pick (.t 64) (.t 74) (.v (.bool false))), []⟩,
    ⟨(some 76), none, .q (.mv (.t 75)), []⟩,
    ⟨(some 77), (some (76, true)), .q (.fa 3 (.t 3)), []⟩,
    ⟨(some 78), (some (76, true)), .q (.ld none (.t 77)), []⟩,
    ⟨(some 79), (some (76, true)), .q (.un .not (.t 78)), []⟩,
    ⟨(some 80), (some (76, true)), .q (.mv (.t 79)), []⟩,
    ⟨(some 81), (some (80, false)), .q (.fa 1 (.t 7)), []⟩,
    ⟨(some 82), (some (80, false)), .q (.ld none (.t 81)), []⟩,
    ⟨(some 83), (some (80, false)), .q (.fa 1 (.t 3)), []⟩,
    ⟨(some 84), (some (80, false)), .q (.ld none (.t 83)), []⟩,
    ⟨(some 85), (some (80, false)), .q (.bin .eql (.t 82) (.t 84)), []⟩,
    ⟨(some 86), (some (76, true)), .q (.pick (.t 80) (.v (.bool true)) (.t 85)), []⟩,
    ⟨(some 87), none, .q (.pick (.t 76) (.t 86) (.v (.bool false))), []⟩,
    ⟨(some 88), none, .q (.mv (.t 87)), []⟩,
    ⟨(some 89), (some (88, true)), .q (.fa 2 (.t 7)), []⟩,
    ⟨(some 90), (some (88, true)), .q (.ld none (.t 89)), []⟩,
    ⟨(some 91), (some (88, true)), .q (.fa 2 (.t 3)), []⟩,
    ⟨(some 92), (some (88, true)), .q (.ld none (.t 91)), []⟩,
    ⟨(some 93), (some (88, true)), .q (.eq .b false (.t 90) (.t 92)), []⟩,
    ⟨(some 94), none, .q (.pick (.t 88) (.t 93) (.v (.bool false))), []⟩,
    ⟨(some 95), none, .q (.mv (.t 94)), []⟩,
    ⟨(some 96), (some (95, true)), .q (.fa 3 (.t 7)), []⟩,
    ⟨(some 97), (some (95, true)), .q (.ld none (.t 96)), []⟩,
    ⟨(some 98), (some (95, true)), .q (.fa 3 (.t 3)), []⟩,
    ⟨(some 99), (some (95, true)), .q (.ld none (.t 98)), []⟩,
    ⟨(some 100), (some (95, true)), .q (.eq .b false (.t 97) (.t 99)), []⟩,
    ⟨(some 101), none, .q (.pick (.t 95) (.t 100) (.v (.bool false))), []⟩,
    ⟨(some 6), none, .q (.mv (.t 101)), []⟩]
def c6_14 : ACode := .seq c6_13 .ret
def c6_15 : ACode := .seq c6_12 c6_14
def c6_16 : ACode := .seq c6_11 c6_15
def c6_17 : ACode := .seq c6_6 c6_16
def c6_18 : ACode := .seq c6_5 c6_17
def c6_19 : ACode := .seq c6_0 c6_18
@[go_sem] theorem c6_0_wp (P : Program) (Q : APost) (a : AFr) (σ : ASt) : c6_0.wp P Q a σ = ACode.wp P (.ops [
    ⟨(some 3), none, .e (.box (.t 0)), []⟩,
    ⟨(some 6), none, .q (.mv (.v (.bool false))), []⟩]) Q a σ := id rfl
@[go_sem] theorem c6_1_wp (P : Program) (Q : APost) (a : AFr) (σ : ASt) : c6_1.wp P Q a σ = ACode.wp P (.ops [
    ⟨(some 11), none, .q (.ld (some 4) (.t 3)), []⟩,
    ⟨(some 12), none, .e (.call 14 [(.t 11)]), []⟩,
    ⟨(some 13), none, .q (.un .not (.t 12)), []⟩,
    ⟨(some 14), none, .q (.mv (.t 13)), []⟩,
    ⟨(some 15), (some (14, false)), .q (.mv (.t 1)), []⟩,
    ⟨(some 16), (some (14, false)), .q (.bin .lss (.t 15) (.v (.int .i64 (-3000)))), []⟩,
    ⟨(some 17), none, .q (.pick (.t 14) (.v (.bool true)) (.t 16)), []⟩,
    ⟨(some 18), none, .q (.mv (.t 17)), []⟩,
    ⟨(some 19), (some (18, false)), .q (.mv (.t 1)), []⟩,
    ⟨(some 20), (some (18, false)), .q (.bin .gtr (.t 19) (.v (.int .i64 3000))), []⟩,
    ⟨(some 21), none, .q (.pick (.t 18) (.v (.bool true)) (.t 20)), []⟩,
    ⟨(some 22), none, .q (.mv (.t 21)), []⟩,
    ⟨(some 23), (some (22, false)), .q (.mv (.t 2)), []⟩,
    ⟨(some 24), (some (22, false)), .q (.bin .lss (.t 23) (.v (.int .i64 (-700)))), []⟩,
    ⟨(some 25), none, .q (.pick (.t 22) (.v (.bool true)) (.t 24)), []⟩,
    ⟨(some 26), none, .q (.mv (.t 25)), []⟩,
    ⟨(some 27), (some (26, false)), .q (.mv (.t 2)), []⟩,
    ⟨(some 28), (some (26, false)), .q (.bin .gtr (.t 27) (.v (.int .i64 700))), []⟩,
    ⟨(some 29), none, .q (.pick (.t 26) (.v (.bool true)) (.t 28)), []⟩]) Q a σ := id rfl
@[go_sem] theorem c6_2_wp (P : Program) (Q : APost) (a : AFr) (σ : ASt) : c6_2.wp P Q a σ = ACode.wp P (.ops [
    ⟨(some 30), none, .e (.call 11 []), []⟩,
    ⟨(some 6), none, .q (.mv (.t 30)), []⟩]) Q a σ := id rfl
@[go_sem] theorem c6_3_wp (P : Program) (Q : APost) (a : AFr) (σ : ASt) : c6_3.wp P Q a σ = ACode.wp P (.seq c6_2 .ret) Q a σ := id rfl
@[go_sem] theorem c6_4_wp (P : Program) (Q : APost) (a : AFr) (σ : ASt) : c6_4.wp P Q a σ = ACode.wp P (.cond (.t 29) c6_3 .skip) Q a σ := id rfl
@[go_sem] theorem c6_5_wp (P : Program) (Q : APost) (a : AFr) (σ : ASt) : c6_5.wp P Q a σ = ACode.wp P (.seq c6_1 c6_4) Q a σ := id rfl
@[go_sem] theorem c6_6_wp (P : Program) (Q : APost) (a : AFr) (σ : ASt) : c6_6.wp P Q a σ = ACode.wp P (.ops [
    ⟨(some 32), none, .q (.ld (some 4) (.t 3)), []⟩,
    ⟨(some 33), none, .q (.mv (.t 1)), []⟩,
    ⟨(some 34), none, .q (.mv (.t 2)), []⟩,
    ⟨(some 35), none, .e (.call 19 [(.t 32), (.t 33), (.t 34)]), []⟩,
    ⟨(some 31), none, .q (.mv (.t 35)), []⟩,
    ⟨(some 36), none, .q (.ext 0 (.t 31)), []⟩,
    ⟨(some 37), none, .q (.ext 1 (.t 31)), []⟩,
    ⟨(some 7), none, .e (.alloc [(.int .i64 0), (.int .i64 0), (.bool false), (.bool false)]), []⟩,
    ⟨none, none, .e (.store 4 (.t 7) (.t 36)), []⟩,
    ⟨(some 8), none, .q (.mv (.t 37)), []⟩]) Q a σ := id rfl
@[go_sem] theorem c6_7_wp (P : Program) (Q : APost) (a : AFr) (σ : ASt) : c6_7.wp P Q a σ = ACode.wp P (.ops [
    ⟨(some 38), none, .q (.mv (.t 8)), []⟩,
    ⟨(some 39), none, .q (.un .not (.t 38)), []⟩]) Q a σ := id rfl
@[go_sem] theorem c6_8_wp (P : Program) (Q : APost) (a : AFr) (σ : ASt) : c6_8.wp P Q a σ = ACode.wp P (.ops [
    ⟨(some 40), none, .e (.call 11 []), []⟩,
    ⟨(some 41), none, .q (.mv (.t 40)), []⟩,
    ⟨(some 42), (some (41, true)), .q (.ld (some 4) (.t 7)), []⟩,
    ⟨(some 43), (some (41, true)), .q (.build [(.int .i64 0), (.int .i64 0), (.bool false), (.bool false)] []), []⟩,
    ⟨(some 44), (some (41, true)), .q (.eqs false [(0, 0), (1, 0), (2, 1), (3, 1)] (.t 42) (.t 43)), []⟩,
    ⟨(some 45), none, .q (.pick (.t 41) (.t 44) (.v (.bool false))), []⟩,
    ⟨(some 6), none, .q (.mv (.t 45)), []⟩]) Q a σ := id rfl
@[go_sem] theorem c6_9_wp (P : Program) (Q : APost) (a : AFr) (σ : ASt) : c6_9.wp P Q a σ = ACode.wp P (.seq c6_8 .ret) Q a σ := id rfl
@[go_sem] theorem c6_10_wp (P : Program) (Q : APost) (a : AFr) (σ : ASt) : c6_10.wp P Q a σ = ACode.wp P (.cond (.t 39) c6_9 .skip) Q a σ := id rfl
@[go_sem] theorem c6_11_wp (P : Program) (Q : APost) (a : AFr) (σ : ASt) : c6_11.wp P Q a σ = ACode.wp P (.seq c6_7 c6_10) Q a σ := id rfl
@[go_sem] theorem c6_12_wp (P : Program) (Q : APost) (a : AFr) (σ : ASt) : c6_12.wp P Q a σ = ACode.wp P (.ops [
    ⟨(some 47), none, .q (.ld (some 4) (.t 7)), []⟩,
    ⟨(some 48), none, .q (.mv (.t 1)), []⟩,
    ⟨(some 49), none, .q (.un .neg (.t 48)), []⟩,
    ⟨(some 50), none, .q (.mv (.t 2)), []⟩,
    ⟨(some 51), none, .q (.un .neg (.t 50)), []⟩,
    ⟨(some 52), none, .e (.call 19 [(.t 47), (.t 49), (.t 51)]), []⟩,
    ⟨(some 46), none, .q (.mv (.t 52)), []⟩,
    ⟨(some 53), none, .q (.ext 0 (.t 46)), []⟩,
    ⟨(some 54), none, .q (.ext 1 (.t 46)), []⟩,
    ⟨(some 9), none, .e (.alloc [(.int .i64 0), (.int .i64 0), (.bool false), (.bool false)]), []⟩,
    ⟨none, none, .e (.store 4 (.t 9) (.t 53)), []⟩,
    ⟨(some 10), none, .q (.mv (.t 54)), []⟩]) Q a σ := id rfl
@[go_sem] theorem c6_13_wp (P : Program) (Q : APost) (a : AFr) (σ : ASt) : c6_13.wp P Q a σ = ACode.wp P (.ops [
    ⟨(some 55), none, .e (.call 11 []), []⟩,
    ⟨(some 56), none, .q (.mv (.t 55)), []⟩,
    ⟨(some 57), (some (56, true)), .q (.mv (.t 10)), []⟩,
    ⟨(some 58), none, .q (.pick (.t 56) (.t 57) (.v (.bool false))), []⟩,
    ⟨(some 59), none, .q (.mv (.t 58)), []⟩,
    ⟨(some 60), (some (59, true)), .q (.ld (some 4) (.t 9)), []⟩,
    ⟨(some 61), (some (59, true)), .q (.ld (some 4) (.t 3)), []⟩,
    ⟨(some 62), (some (59, true)), .q (.eqs false [(0, 0), (1, 0), (2, 1), (3, 1)] (.t 60) (.t 61)), []⟩,
    ⟨(some 63), none, .q (.pick (.t 59) (.t 62) (.v (.bool false))), []⟩,
    ⟨(some 64), none, .q (.mv (.t 63)), []⟩,
    ⟨(some 65), (some (64, true)), .q (.fa 2 (.t 3)), []⟩,
    ⟨(some 66), (some (64, true)), .q (.ld none (.t 65)), []⟩,
    ⟨(some 67), (some (64, true)), .q (.un .not (.t 66)), []⟩,
    ⟨(some 68), (some (64, true)), .q (.mv (.t 67)), []⟩,
    ⟨(some 69), (some (68, false)), .q (.fa 0 (.t 7)), []⟩,
    ⟨(some 70), (some (68, false)), .q (.ld none (.t 69)), []⟩,
    ⟨(some 71), (some (68, false)), .q (.fa 0 (.t 3)), []⟩,
    ⟨(some 72), (some (68, false)), .q (.ld none (.t 71)), []⟩,
    ⟨(some 73), (some (68, false)), .q (.bin .eql (.t 70) (.t 72)), []⟩,
    ⟨(some 74), (some (64, true)), .q (.pick (.t 68) (.v (.bool true)) (.t 73)), []⟩,
    ⟨(some 75), none, .q (.pick (.t 64) (.t 74) (.v (.bool false))), []⟩,
    ⟨(some 76), none, .q (.mv (.t 75)), []⟩,
    ⟨(some 77), (some (76, true)), .q (.fa 3 (.t 3)), []⟩,
    ⟨(some 78), (some (76, true)), .q (.ld none (.t 77)), []⟩,
    ⟨(some 79), (some (76, true)), .q (.un .not (.t 78)), []⟩,
    ⟨(some 80), (some (76, true)), .q (.mv (.t 79)), []⟩,
    ⟨(some 81), (some (80, false)), .q (.fa 1 (.t 7)), []⟩,
    ⟨(some 82), (some (80, false)), .q (.ld none (.t 81)), []⟩,
    ⟨(some 83), (some (80, false)), .q (.fa 1 (.t 3)), []⟩,
    ⟨(some 84), (some (80, false)), .q (.ld none (.t 83)), []⟩,
    ⟨(some 85), (some (80, false)), .q (.bin .eql (.t 82) (.t 84)), []⟩,
    ⟨(some 86), (some (76, true)), .q (.pick (.t 80) (.v (.bool true)) (.t 85)), []⟩,
    ⟨(some 87), none, .q (.pick (.t 76) (.t 86) (.v (.bool false))), []⟩,
    ⟨(some 88), none, .q (.mv (.t 87)), []⟩,
    ⟨(some 89), (some (88, true)), .q (.fa 2 (.t 7)), []⟩,
    ⟨(some 90), (some (88, true)), .q (.ld none (.t 89)), []⟩,
    ⟨(some 91), (some (88, true)), .q (.fa 2 (.t 3)), []⟩,
    ⟨(some 92), (some (88, true)), .q (.ld none (.t 91)), []⟩,
    ⟨(some 93), (some (88, true)), .q (.eq .b false (.t 90) (.t 92)), []⟩,
    ⟨(some 94), none, .q (.pick (.t 88) (.t 93) (.v (.bool false))), []⟩,
    ⟨(some 95), none, .q (.mv (.t 94)), []⟩,
    ⟨(some 96), (some (95, true)), .q (.fa 3 (.t 7)), []⟩,
    ⟨(some 97), (some (95, true)), .q (.ld none (.t 96)), []⟩,
    ⟨(some 98), (some (95, true)), .q (.fa 3 (.t 3)), []⟩,
    ⟨(some 99), (some (95, true)), .q (.ld none (.t 98)), []⟩,
    ⟨(some 100), (some (95, true)), .q (.eq .b false (.t 97) (.t 99)), []⟩,
    ⟨(some 101), none, .q (.pick (.t 95) (.t 100) (.v (.bool false))), []⟩,
    ⟨(some 6), none, .q (.mv (.t 101)), []⟩]) Q a σ := id rfl
@[go_sem] theorem c6_14_wp (P : Program) (Q : APost) (a : AFr) (σ : ASt) : c6_14.wp P Q a σ = ACode.wp P (.seq c6_13 .ret) Q a σ := id rfl
@[go_sem] theorem c6_15_wp (P : Program) (Q : APost) (a : AFr) (σ : ASt) : c6_15.wp P Q a σ = ACode.wp P (.seq c6_12 c6_14) Q a σ := id rfl
@[go_sem] theorem c6_16_wp (P : Program) (Q : APost) (a : AFr) (σ : ASt) : c6_16.wp P Q a σ = ACode.wp P (.seq c6_11 c6_15) Q a σ := id rfl
@[go_sem] theorem c6_17_wp (P : Program) (Q : APost) (a : AFr) (σ : ASt) : c6_17.wp P Q a σ = ACode.wp P (.seq c6_6 c6_16) Q a σ := id rfl
@[go_sem] theorem c6_18_wp (P : Program) (Q : APost) (a : AFr) (σ : ASt) : c6_18.wp P Q a σ = ACode.wp P (.seq c6_5 c6_17) Q a σ := id rfl
@[go_sem] theorem c6_19_wp (P : Program) (Q : APost) (a : AFr) (σ : ASt) : c6_19.wp P Q a σ = ACode.wp P (.seq c6_0 c6_18) Q a σ := id rfl
def c6 : AFn := ⟨102, [.t 6], c6_19⟩
set_option maxRecDepth 100000 in
theorem c6_ok : compF Try.prog Try.f6 = some c6 := by kernel_rfl
theorem a6 {args : List AV} {σ : ASt} {R : AV → ASt → Prop} (hl : args.length ≤ 102) (h : c6_19.wp Try.prog (RetQ [.t 6] R) (init args) σ) : ACalls Try.prog 6 args σ R := acalls_of Try.func6 c6_ok hl h

/-! 9: tabular/addr.Column -/
def c9_0 : ACode := .ops [
    ⟨(some 2), none, .q (.mv (.v (.int .i64 0))), []⟩,
    ⟨(some 3), none, .q (.mv (.v (.bool false))), []⟩]
def c9_1 : ACode := .ops [
    ⟨(some 4), none, .q (.mv (.v (.int .i64 0))), []⟩]
def c9_2 : ACode := .ops [
    ⟨(some 7), none, .q (.mv (.t 0)), []⟩,
    ⟨(some 8), none, .e (.s2b (.t 7)), []⟩,
    ⟨(some 9), none, .q (.len (.t 8)), []⟩,
    ⟨(some 10), none, .q (.mv (.v (.int .i64 0))), []⟩]
def c9_3 : ACode := .ops [
    ⟨(some 11), none, .q (.bin .lss (.t 10) (.t 9)), []⟩]
def c9_4 : ACode := .cond (.t 11) .skip (.exit 0)
def c9_5 : ACode := .ops [
    ⟨(some 12), none, .q (.ia 1 (.t 8) (.t 10)), []⟩,
    ⟨(some 13), none, .q (.ld none (.t 12)), []⟩,
    ⟨(some 6), none, .q (.mv (.t 13)), []⟩]
def c9_6 : ACode := .ops [
    ⟨(some 14), none, .q (.mv (.t 6)), []⟩,
    ⟨(some 15), none, .e (.call 25 [(.t 14)]), []⟩,
    ⟨(some 16), none, .q (.bin .eql (.t 15) (.v (.int .i64 0))), []⟩,
    ⟨(some 17), none, .q (.mv (.t 16)), []⟩,
    ⟨(some 18), (some (17, false)), .q (.mv (.t 4)), []⟩,
    ⟨(some 19), (some (17, false)), .q (.bin .gtr (.t 18) (.v (.int .i64 700))), []⟩,
    ⟨(some 20), none, .q (.pick (.t 17) (.v (.bool true)) (.t 19)), []⟩]
def c9_7 : ACode := .ops [
    ⟨(some 2), none, .q (.mv (.v (.int .i64 0))), []⟩,
    ⟨(some 3), none, .q (.mv (.v (.bool false))), []⟩]
def c9_8 : ACode := .seq c9_7 .ret
def c9_9 : ACode := .cond (.t 20) c9_8 .skip
def c9_10 : ACode := .seq c9_6 c9_9
def c9_11 : ACode := .ops [
    ⟨(some 21), none, .q (.mv (.t 4)), []⟩,
    ⟨(some 22), none, .q (.bin .mul (.v (.int .i64 26)) (.t 21)), []⟩,
    ⟨(some 23), none, .q (.mv (.t 6)), []⟩,
    ⟨(some 24), none, .e (.call 25 [(.t 23)]), []⟩,
    ⟨(some 25), none, .q (.bin .add (.t 22) (.t 24)), []⟩,
    ⟨(some 4), none, .q (.mv (.t 25)), []⟩]
def c9_12 : ACode := .seq c9_10 c9_11
def c9_13 : ACode := .seq c9_5 c9_12
def c9_14 : ACode := .block 1 c9_13
def c9_15 : ACode := .ops [
    ⟨(some 26), none, .q (.bin .add (.t 10) (.v (.int .i64 1))), []⟩,
    ⟨(some 10), none, .q (.mv (.t 26)), []⟩]
def c9_16 : ACode := .seq c9_14 c9_15
def c9_17 : ACode := .seq c9_4 c9_16
def c9_18 : ACode := .seq c9_3 c9_17
def c9_19 : ACode := .loop c9_18
def c9_20 : ACode := .block 0 c9_19
def c9_21 : ACode := .seq c9_2 c9_20
def c9_22 : ACode := .ops [
    ⟨(some 27), none, .q (.mv (.t 4)), []⟩,
    ⟨(some 28), none, .q (.bin .lss (.t 27) (.v (.int .i64 1))), []⟩,
    ⟨(some 29), none, .q (.mv (.t 28)), []⟩,
    ⟨(some 30), (some (29, false)), .q (.mv (.t 4)), []⟩,
    ⟨(some 31), (some (29, false)), .q (.bin .gtr (.t 30) (.v (.int .i64 700))), []⟩,
    ⟨(some 32), none, .q (.pick (.t 29) (.v (.bool true)) (.t 31)), []⟩]
def c9_23 : ACode := .ops [
    ⟨(some 2), none, .q (.mv (.v (.int .i64 0))), []⟩,
    ⟨(some 3), none, .q (.mv (.v (.bool false))), []⟩]
def c9_24 : ACode := .seq c9_23 .ret
def c9_25 : ACode := .cond (.t 32) c9_24 .skip
def c9_26 : ACode := .seq c9_22 c9_25
def c9_27 : ACode := .ops [
    ⟨(some 33), none, .q (.mv (.t 4)), []⟩,
    ⟨(some 34), none, .q (.bin .sub (.t 33) (.v (.int .i64 1))), []⟩,
    ⟨(some 2), none, .q (.mv (.t 34)), []⟩,
    ⟨(some 3), none, .q (.mv (.v (.bool true))), []⟩]
def c9_28 : ACode := .seq c9_27 .ret
def c9_29 : ACode := .seq c9_26 c9_28
def c9_30 : ACode := .seq c9_21 c9_29
def c9_31 : ACode := .seq c9_1 c9_30
def c9_32 : ACode := .seq c9_0 c9_31
@[go_sem] theorem c9_0_wp (P : Program) (Q : APost) (a : AFr) (σ : ASt) : c9_0.wp P Q a σ = ACode.wp P (.ops [
    ⟨(some 2), none, .q (.mv (.v (.int .i64 0))), []⟩,
    ⟨(some 3), none, .q (.mv (.v (.bool false))), []⟩]) Q a σ := id rfl
@[go_sem] theorem c9_1_wp (P : Program) (Q : APost) (a : AFr) (σ : ASt) : c9_1.wp P Q a σ = ACode.wp P (.ops [
    ⟨(some 4), none, .q (.mv (.v (.int .i64 0))), []⟩]) Q a σ := id rfl
@[go_sem] theorem c9_2_wp (P : Program) (Q : APost) (a : AFr) (σ : ASt) : c9_2.wp P Q a σ = ACode.wp P (.ops [
    ⟨(some 7), none, .q (.mv (.t 0)), []⟩,
    ⟨(some 8), none, .e (.s2b (.t 7)), []⟩,
    ⟨(some 9), none, .q (.len (.t 8)), []⟩,
    ⟨(some 10), none, .q (.mv (.v (.int .i64 0))), []⟩]) Q a σ := id rfl
@[go_sem] theorem c9_3_wp (P : Program) (Q : APost) (a : AFr) (σ : ASt) : c9_3.wp P Q a σ = ACode.wp P (.ops [
    ⟨(some 11), none, .q (.bin .lss (.t 10) (.t 9)), []⟩]) Q a σ := id rfl
@[go_sem] theorem c9_4_wp (P : Program) (Q : APost) (a : AFr) (σ : ASt) : c9_4.wp P Q a σ = ACode.wp P (.cond (.t 11) .skip (.exit 0)) Q a σ := id rfl
@[go_sem] theorem c9_5_wp (P : Program) (Q : APost) (a : AFr) (σ : ASt) : c9_5.wp P Q a σ = ACode.wp P (.ops [
    ⟨(some 12), none, .q (.ia 1 (.t 8) (.t 10)), []⟩,
    ⟨(some 13), none, .q (.ld none (.t 12)), []⟩,
    ⟨(some 6), none, .q (.mv (.t 13)), []⟩]) Q a σ := id rfl
@[go_sem] theorem c9_6_wp (P : Program) (Q : APost) (a : AFr) (σ : ASt) : c9_6.wp P Q a σ = ACode.wp P (.ops [
    ⟨(some 14), none, .q (.mv (.t 6)), []⟩,
    ⟨(some 15), none, .e (.call 25 [(.t 14)]), []⟩,
    ⟨(some 16), none, .q (.bin .eql (.t 15) (.v (.int .i64 0))), []⟩,
    ⟨(some 17), none, .q (.mv (.t 16)), []⟩,
    ⟨(some 18), (some (17, false)), .q (.mv (.t 4)), []⟩,
    ⟨(some 19), (some (17, false)), .q (.bin .gtr (.t 18) (.v (.int .i64 700))), []⟩,
    ⟨(some 20), none, .q (.pick (.t 17) (.v (.bool true)) (.t 19)), []⟩]) Q a σ := id rfl
@[go_sem] theorem c9_7_wp (P : Program) (Q : APost) (a : AFr) (σ : ASt) : c9_7.wp P Q a σ = ACode.wp P (.ops [
    ⟨(some 2), none, .q (.mv (.v (.int .i64 0))), []⟩,
    ⟨(some 3), none, .q (.mv (.v (.bool false))), []⟩]) Q a σ := id rfl
@[go_sem] theorem c9_8_wp (P : Program) (Q : APost) (a : AFr) (σ : ASt) : c9_8.wp P Q a σ = ACode.wp P (.seq c9_7 .ret) Q a σ := id rfl
@[go_sem] theorem c9_9_wp (P : Program) (Q : APost) (a : AFr) (σ : ASt) : c9_9.wp P Q a σ = ACode.wp P (.cond (.t 20) c9_8 .skip) Q a σ := id rfl
@[go_sem] theorem c9_10_wp (P : Program) (Q : APost) (a : AFr) (σ : ASt) : c9_10.wp P Q a σ = ACode.wp P (.seq c9_6 c9_9) Q a σ := id rfl
@[go_sem] theorem c9_11_wp (P : Program) (Q : APost) (a : AFr) (σ : ASt) : c9_11.wp P Q a σ = ACode.wp P (.ops [
    ⟨(some 21), none, .q (.mv (.t 4)), []⟩,
    ⟨(some 22), none, .q (.bin .mul (.v (.int .i64 26)) (.t 21)), []⟩,
    ⟨(some 23), none, .q (.mv (.t 6)), []⟩,
    ⟨(some 24), none, .e (.call 25 [(.t 23)]), []⟩,
    ⟨(some 25), none, .q (.bin .add (.t 22) (.t 24)), []⟩,
    ⟨(some 4), none, .q (.mv (.t 25)), []⟩]) Q a σ := id rfl
@[go_sem] theorem c9_12_wp (P : Program) (Q : APost) (a : AFr) (σ : ASt) : c9_12.wp P Q a σ = ACode.wp P (.seq c9_10 c9_11) Q a σ := id rfl
@[go_sem] theorem c9_13_wp (P : Program) (Q : APost) (a : AFr) (σ : ASt) : c9_13.wp P Q a σ = ACode.wp P (.seq c9_5 c9_12) Q a σ := id rfl
@[go_sem] theorem c9_14_wp (P : Program) (Q : APost) (a : AFr) (σ : ASt) : c9_14.wp P Q a σ = ACode.wp P (.block 1 c9_13) Q a σ := id rfl
@[go_sem] theorem c9_15_wp (P : Program) (Q : APost) (a : AFr) (σ : ASt) : c9_15.wp P Q a σ = ACode.wp P (.ops [
    ⟨(some 26), none, .q (.bin .add (.t 10) (.v (.int .i64 1))), []⟩,
    ⟨(some 10), none, .q (.mv (.t 26)), []⟩]) Q a σ := id rfl
@[go_sem] theorem c9_16_wp (P : Program) (Q : APost) (a : AFr) (σ : ASt) : c9_16.wp P Q a σ = ACode.wp P (.seq c9_14 c9_15) Q a σ := id rfl
@[go_sem] theorem c9_17_wp (P : Program) (Q : APost) (a : AFr) (σ : ASt) : c9_17.wp P Q a σ = ACode.wp P (.seq c9_4 c9_16) Q a σ := id rfl
@[go_sem] theorem c9_18_wp (P : Program) (Q : APost) (a : AFr) (σ : ASt) : c9_18.wp P Q a σ = ACode.wp P (.seq c9_3 c9_17) Q a σ := id rfl
@[go_sem] theorem c9_19_wp (P : Program) (Q : APost) (a : AFr) (σ : ASt) : c9_19.wp P Q a σ = ACode.wp P (.loop c9_18) Q a σ := id rfl
@[go_sem] theorem c9_20_wp (P : Program) (Q : APost) (a : AFr) (σ : ASt) : c9_20.wp P Q a σ = ACode.wp P (.block 0 c9_19) Q a σ := id rfl
@[go_sem] theorem c9_21_wp (P : Program) (Q : APost) (a : AFr) (σ : ASt) : c9_21.wp P Q a σ = ACode.wp P (.seq c9_2 c9_20) Q a σ := id rfl
@[go_sem] theorem c9_22_wp (P : Program) (Q : APost) (a : AFr) (σ : ASt) : c9_22.wp P Q a σ = ACode.wp P (.ops [
    ⟨(some 27), none, .q (.mv (.t 4)), []⟩,
    ⟨(some 28), none, .q (.bin .lss (.t 27) (.v (.int .i64 1))), []⟩,
    ⟨(some 29), none, .q (.mv (.t 28)), []⟩,
    ⟨(some 30), (some (29, false)), .q (.mv (.t 4)), []⟩,
    ⟨(some 31), (some (29, false)), .q (.bin .gtr (.t 30) (.v (.int .i64 700))), []⟩,
    ⟨(some 32), none, .q (.pick (.t 29) (.v (.bool true)) (.t 31)), []⟩]) Q a σ := id rfl
@[go_sem] theorem c9_23_wp (P : Program) (Q : APost) (a : AFr) (σ : ASt) : c9_23.wp P Q a σ = ACode.wp P (.ops [
    ⟨(some 2), none, .q (.mv (.v (.int .i64 0))), []⟩,
    ⟨(some 3), none, .q (.mv (.v (.bool false))), []⟩]) Q a σ := id rfl
@[go_sem] theorem c9_24_wp (P : Program) (Q : APost) (a : AFr) (σ : ASt) : c9_24.wp P Q a σ = ACode.wp P (.seq c9_23 .ret) Q a σ := id rfl
@[go_sem] theorem c9_25_wp (P : Program) (Q : APost) (a : AFr) (σ : ASt) : c9_25.wp P Q a σ = ACode.wp P (.cond (.t 32) c9_24 .skip) Q a σ := id rfl
@[go_sem] theorem c9_26_wp (P : Program) (Q : APost) (a : AFr) (σ : ASt) : c9_26.wp P Q a σ = ACode.wp P (.seq c9_22 c9_25) Q a σ := id rfl
@[go_sem] theorem c9_27_wp (P : Program) (Q : APost) (a : AFr) (σ : ASt) : c9_27.wp P Q a σ = ACode.wp P (.ops [
    ⟨(some 33), none, .q (.mv (.t 4)), []⟩,
    ⟨(some 34), none, .q (.bin .sub (.t 33) (.v (.int .i64 1))), []⟩,
    ⟨(some 2), none, .q (.mv (.t 34)), []⟩,
    ⟨(some 3), none, .q (.mv (.v (.bool true))), []⟩]) Q a σ := id rfl
@[go_sem] theorem c9_28_wp (P : Program) (Q : APost) (a : AFr) (σ : ASt) : c9_28.wp P Q a σ = ACode.wp P (.seq c9_27 .ret) Q a σ := id rfl
@[go_sem] theorem c9_29_wp (P : Program) (Q : APost) (a : AFr) (σ : ASt) : c9_29.wp P Q a σ = ACode.wp P (.seq c9_26 c9_28) Q a σ := id rfl
@[go_sem] theorem c9_30_wp (P : Program) (Q : APost) (a : AFr) (σ : ASt) : c9_30.wp P Q a σ = ACode.wp P (.seq c9_21 c9_29) Q a σ := id rfl
@[go_sem] theorem c9_31_wp (P : Program) (Q : APost) (a : AFr) (σ : ASt) : c9_31.wp P Q a σ = ACode.wp P (.seq c9_1 c9_30) Q a σ := id rfl
@[go_sem] theorem c9_32_wp (P : Program) (Q : APost) (a : AFr) (σ : ASt) : c9_32.wp P Q a σ = ACode.wp P (.seq c9_0 c9_31) Q a σ := id rfl
def c9 : AFn := ⟨35, [.t 2, .t 3], c9_32⟩
set_option maxRecDepth 100000 in
theorem c9_ok : compF Try.prog Try.f9 = some c9 := by kernel_rfl
theorem a9 {args : List AV} {σ : ASt} {R : AV → ASt → Prop} (hl : args.length ≤ 35) (h : c9_32.wp Try.prog (RetQ [.t 2, .t 3] R) (init args) σ) : ACalls Try.prog 9 args σ R := acalls_of Try.func9 c9_ok hl h

/-! 11: tabular/tabularlaw10.awake -/
def c11_0 : ACode := .ops [
    ⟨(some 0), none, .q (.mv (.v (.bool false))), []⟩]
def c11_1 : ACode := .ops [
    ⟨(some 8), none, .e (.call 28 [(.v (.str [66, 36, 55, 43, 49]))]), []⟩,
    ⟨(some 7), none, .q (.mv (.t 8)), []⟩,
    ⟨(some 9), none, .q (.ext 0 (.t 7)), []⟩,
    ⟨(some 10), none, .q (.ext 1 (.t 7)), []⟩,
    ⟨(some 1), none, .e (.alloc [(.int .i64 0), (.int .i64 0), (.bool false), (.bool false)]), []⟩,
    ⟨none, none, .e (.store 4 (.t 1) (.t 9)), []⟩,
    ⟨(some 2), none, .q (.mv (.t 10)), []⟩]
def c11_2 : ACode := .ops [
    ⟨(some 12), none, .e (.call 28 [(.v (.str [65, 49, 66]))]), []⟩,
    ⟨(some 11), none, .q (.mv (.t 12)), []⟩,
    ⟨(some 13), none, .q (.ext 0 (.t 11)), []⟩,
    ⟨(some 14), none, .q (.ext 1 (.t 11)), []⟩,
    ⟨(some 3), none, .e (.alloc [(.int .i64 0), (.int .i64 0), (.bool false), (.bool false)]), []⟩,
    ⟨none, none, .e (.store 4 (.t 3) (.t 13)), []⟩,
    ⟨(some 4), none, .q (.mv (.t 14)), []⟩]
def c11_3 : ACode := .ops [
    ⟨(some 16), none, .e (.call 29 [(.v (.str [67, 51, 58, 65, 49]))]), []⟩,
    ⟨(some 15), none, .q (.mv (.t 16)), []⟩,
    ⟨(some 17), none, .q (.ext 0 (.t 15)), []⟩,
    ⟨(some 18), none, .q (.ext 1 (.t 15)), []⟩,
    ⟨(some 5), none, .e (.alloc [(.int .i64 0), (.int .i64 0), (.bool false), (.bool false), (.int .i64 0), (.int .i64 0), (.bool false), (.bool false)]), []⟩,
    ⟨none, none, .e (.store 8 (.t 5) (.t 17)), []⟩,
    ⟨(some 6), none, .q (.mv (.t 18)), []⟩]
def c11_4 : ACode := .ops [
    ⟨(some 19), none, .e (.call 12 [(.v (.int .i64 27))]), []⟩,
    ⟨(some 20), none, .q (.bin .eql (.t 19) (.v (.str [65, 66]))), []⟩,
    ⟨(some 21), none, .q (.mv (.t 20)), []⟩,
    ⟨(some 22), (some (21, true)), .q (.ld (some 4) (.t 1)), []⟩,
    ⟨(some 23), (some (21, true)), .q (.build [(.int .i64 0), (.int .i64 0), (.bool false), (.bool false)] [(0, 1, (.v (.int .i64 6))), (1, 1, (.v (.int .i64 1))), (2, 1, (.v (.bool true)))]), []⟩,
    ⟨(some 24), (some (21, true)), .q (.eqs false [(0, 0), (1, 0), (2, 1), (3, 1)] (.t 22) (.t 23)), []⟩,
    ⟨(some 25), none, .q (.pick (.t 21) (.t 24) (.v (.bool false))), []⟩,
    ⟨(some 26), none, .q (.mv (.t 25)), []⟩,
    ⟨(some 27), (some (26, true)), .q (.mv (.t 2)), []⟩,
    ⟨(some 28), (some (26, true)), .q (.bin .eql (.t 27) (.v (.int .i64 3))), []⟩,
    ⟨(some 29), none, .q (.pick (.t 26) (.t 28) (.v (.bool false))), []⟩,
    ⟨(some 30), none, .q (.mv (.t 29)), []⟩,
    ⟨(some 31), (some (30, true)), .q (.mv (.t 4)), []⟩,
    ⟨(some 32), (some (30, true)), .q (.bin .eql (.t 31) (.v (.int .i64 0))), []⟩,
    ⟨(some 33), none, .q (.pick (.t 30) (.t 32) (.v (.bool false))), []⟩,
    ⟨(some 34), none, .q (.mv (.t 33)), []⟩,
    ⟨(some 35), (some (34, true)), .q (.mv (.t 6)), []⟩,
    ⟨(some 36), none, .q (.pick (.t 34) (.t 35) (.v (.bool false))), []⟩,
    ⟨(some 37), none, .q (.mv (.t 36)), []⟩,
    ⟨(some 38), (some (37, true)), .q (.ld (some 8) (.t 5)), []⟩,
    ⟨(some 39), (some (37, true)), .e (.call 16 [(.t 38)]), []⟩,
    ⟨(some 40), (some (37, true)), .q (.build [(.int .i64 0), (.int .i64 0), (.int .i64 0), (.int .i64 0)] [(2, 1, (.v (.int .i64 3))), (3, 1, (.v (.int .i64 3)))]), []⟩,
    ⟨(some 41), (some (37, true)), .q (.eqs false [(0, 0), (1, 0), (2, 0), (3, 0)] (.t 39) (.t 40)), []⟩,
    ⟨(some 42), none, .q (.pick (.t 37) (.t 41) (.v (.bool false))), []⟩,
    ⟨(some 0), none, .q (.mv (.t 42)), []⟩]
def c11_5 : ACode := .seq c11_4 .ret
def c11_6 : ACode := .seq c11_3 c11_5
def c11_7 : ACode := .seq c11_2 c11_6
def c11_8 : ACode := .seq c11_1 c11_7
def c11_9 : ACode := .seq c11_0 c11_8
@[go_sem] theorem c11_0_wp (P : Program) (Q : APost) (a : AFr) (σ : ASt) : c11_0.wp P Q a σ = ACode.wp P (.ops [
    ⟨(some 0), none, .q (.mv (.v (.bool false))), []⟩]) Q a σ := id rfl
@[go_sem] theorem c11_1_wp (P : Program) (Q : APost) (a : AFr) (σ : ASt) : c11_1.wp P Q a σ = ACode.wp P (.ops [
    ⟨(some 8), none, .e (.call 28 [(.v (.str [66, 36, 55, 43, 49]))]), []⟩,
    ⟨(some 7), none, .q (.mv (.t 8)), []⟩,
    ⟨(some 9), none, .q (.ext 0 (.t 7)), []⟩,
    ⟨(some 10), none, .q (.ext 1 (.t 7)), []⟩,
    ⟨(some 1), none, .e (.alloc [(.int .i64 0), (.int .i64 0), (.bool false), (.bool false)]), []⟩,
    ⟨none, none, .e (.store 4 (.t 1) (.t 9)), []⟩,
    ⟨(some 2), none, .q (.mv (.t 10)), []⟩]) Q a σ := id rfl
@[go_sem] theorem c11_2_wp (P : Program) (Q : APost) (a : AFr) (σ : ASt) : c11_2.wp P Q a σ = ACode.wp P (.ops [
    ⟨(some 12), none, .e (.call 28 [(.v (.str [65, 49, 66]))]), []⟩,
    ⟨(some 11), none, .q (.mv (.t 12)), []⟩,
    ⟨(some 13), none, .q (.ext 0 (.t 11)), []⟩,
    ⟨(some 14), none, .q (.ext 1 (.t 11)), []⟩,
    ⟨(some 3), none, .e (.alloc [(.int .i64 0), (.int .i64 0), (.bool false), (.bool false)]), []⟩,
    ⟨none, none, .e (.store 4 (.t 3) (.t 13)), []⟩,
    ⟨(some 4), none, .q (.mv (.t 14)), []⟩]) Q a σ := id rfl
@[go_sem] theorem c11_3_wp (P : Program) (Q : APost) (a : AFr) (σ : ASt) : c11_3.wp P Q a σ = ACode.wp P (.ops [
    ⟨(some 16), none, .e (.call 29 [(.v (.str [67, 51, 58, 65, 49]))]), []⟩,
    ⟨(some 15), none, .q (.mv (.t 16)), []⟩,
    ⟨(some 17), none, .q (.ext 0 (.t 15)), []⟩,
    ⟨(some 18), none, .q (.ext 1 (.t 15)), []⟩,
    ⟨(some 5), none, .e (.alloc [(.int .i64 0), (.int .i64 0), (.bool false), (.bool false), (.int .i64 0), (.int .i64 0), (.bool false), (.bool false)]), []⟩,
    ⟨none, none, .e (.store 8 (.t 5) (.t 17)), []⟩,
    ⟨(some 6), none, .q (.mv (.t 18)), []⟩]) Q a σ := id rfl
@[go_sem] theorem c11_4_wp (P : Program) (Q : APost) (a : AFr) (σ : ASt) : c11_4.wp P Q a σ = ACode.wp P (.ops [
    ⟨(some 19), none, .e (.call 12 [(.v (.int .i64 27))]), []⟩,
    ⟨(some 20), none, .q (.bin .eql (.t 19) (.v (.str [65, 66]))), []⟩,
    ⟨(some 21), none, .q (.mv (.t 20)), []⟩,
    ⟨(some 22), (some (21, true)), .q (.ld (some 4) (.t 1)), []⟩,
    ⟨(some 23), (some (21, true)), .q (.build [(.int .i64 0), (.int .i64 0), (.bool false), (.bool false)] [(0, 1, (.v (.int .i64 6))), (1, 1, (.v (.int .i64 1))), (2, 1, (.v (.bool true)))]), []⟩,
    ⟨(some 24), (some (21, true)), .q (.eqs false [(0, 0), (1, 0), (2, 1), (3, 1)] (.t 22) (.t 23)), []⟩,
    ⟨(some 25), none, .q (.pick (.t 21) (.t 24) (.v (.bool false))), []⟩,
    ⟨(some 26), none, .q (.mv (.t 25)), []⟩,
    ⟨(some 27), (some (26, true)), .q (.mv (.t 2)), []⟩,
    ⟨(some 28), (some (26, true)), .q (.bin .eql (.t 27) (.v (.int .i64 3))), []⟩,
    ⟨(some 29), none, .q (.pick (.t 26) (.t 28) (.v (.bool false))), []⟩,
    ⟨(some 30), none, .q (.mv (.t 29)), []⟩,
    ⟨(some 31), (some (30, true)), .q (.mv (.t 4)), []⟩,
    ⟨(some 32), (some (30, true)), .q (.bin .eql (.t 31) (.v (.int .i64 0))), []⟩,
    ⟨(some 33), none, .q (.pick (.t 30) (.t 32) (.v (.bool false))), []⟩,
    ⟨(some 34), none, .q (.mv (.t 33)), []⟩,
    ⟨(some 35), (some (34, true)), .q (.mv (.t 6)), []⟩,
    ⟨(some 36), none, .q (.pick (.t 34) (.t 35) (.v (.bool false))), []⟩,
    ⟨(some 37), none, .q (.mv (.t 36)), []⟩,
    ⟨(some 38), (some (37, true)), .q (.ld (some 8) (.t 5)), []⟩,
    ⟨(some 39), (some (37, true)), .e (.call 16 [(.t 38)]), []⟩,
    ⟨(some 40), (some (37, true)), .q (.build [(.int .i64 0), (.int .i64 0), (.int .i64 0), (.int .i64 0)] [(2, 1, (.v (.int .i64 3))), (3, 1, (.v (.int .i64 3)))]), []⟩,
    ⟨(some 41), (some (37, true)), .q (.eqs false [(0, 0), (1, 0), (2, 0), (3, 0)] (.t 39) (.t 40)), []⟩,
    ⟨(some 42), none, .q (.pick (.t 37) (.t 41) (.v (.bool false))), []⟩,
    ⟨(some 0), none, .q (.mv (.t 42)), []⟩]) Q a σ := id rfl
@[go_sem] theorem c11_5_wp (P : Program) (Q : APost) (a : AFr) (σ : ASt) : c11_5.wp P Q a σ = ACode.wp P (.seq c11_4 .ret) Q a σ := id rfl
@[go_sem] theorem c11_6_wp (P : Program) (Q : APost) (a : AFr) (σ : ASt) : c11_6.wp P Q a σ = ACode.wp P (.seq c11_3 c11_5) Q a σ := id rfl
@[go_sem] theorem c11_7_wp (P : Program) (Q : APost) (a : AFr) (σ : ASt) : c11_7.wp P Q a σ = ACode.wp P (.seq c11_2 c11_6) Q a σ := id rfl
@[go_sem] theorem c11_8_wp (P : Program) (Q : APost) (a : AFr) (σ : ASt) : c11_8.wp P Q a σ = ACode.wp P (.seq c11_1 c11_7) Q a σ := id rfl
@[go_sem] theorem c11_9_wp (P : Program) (Q : APost) (a : AFr) (σ : ASt) : c11_9.wp P Q a σ = ACode.wp P (.seq c11_0 c11_8) Q a σ := id rfl
def c11 : AFn := ⟨43, [.t 0], c11_9⟩
set_option maxRecDepth 100000 in
theorem c11_ok : compF Try.prog Try.f11 = some c11 := by kernel_rfl
theorem a11 {args : List AV} {σ : ASt} {R : AV → ASt → Prop} (hl : args.length ≤ 43) (h : c11_9.wp Try.prog (RetQ [.t 0] R) (init args) σ) : ACalls Try.prog 11 args σ R := acalls_of Try.func11 c11_ok hl h

/-! 12: tabular/addr.Letters -/
def c12_0 : ACode := .ops [
    ⟨(some 2), none, .q (.mv (.v (.str []))), []⟩]
def c12_1 : ACode := .ops [
    ⟨(some 4), none, .q (.mv (.t 0)), []⟩,
    ⟨(some 5), none, .q (.bin .lss (.t 4) (.v (.int .i64 0))), []⟩,
    ⟨(some 6), none, .q (.mv (.t 5)), []⟩,
    ⟨(some 7), (some (6, false)), .q (.mv (.t 0)), []⟩,
    ⟨(some 8), (some (6, false)), .q (.bin .geq (.t 7) (.v (.int .i64 700))), []⟩,
    ⟨(some 9), none, .q (.pick (.t 6) (.v (.bool true)) (.t 8)), []⟩]
def c12_2 : ACode := .ops [
    ⟨(some 2), none, .q (.mv (.v (.str []))), []⟩]
def c12_3 : ACode := .seq c12_2 .ret
def c12_4 : ACode := .cond (.t 9) c12_3 .skip
def c12_5 : ACode := .seq c12_1 c12_4
def c12_6 : ACode := .ops [
    ⟨(some 3), none, .q (.mv (.v (.str []))), []⟩]
def c12_7 : ACode := .ops [
    ⟨(some 10), none, .q (.mv (.t 0)), []⟩,
    ⟨(some 11), none, .q (.bin .add (.t 10) (.v (.int .i64 1))), []⟩,
    ⟨(some 0), none, .q (.mv (.t 11)), []⟩]
def c12_8 : ACode := .ops [
    ⟨(some 12), none, .q (.mv (.t 0)), []⟩,
    ⟨(some 13), none, .q (.bin .gtr (.t 12) (.v (.int .i64 0))), []⟩]
def c12_9 : ACode := .cond (.t 13) .skip (.exit 0)
def c12_10 : ACode := .seq c12_8 c12_9
def c12_11 : ACode := .ops [
    ⟨(some 17), none, .q (.mv (.t 0)), []⟩,
    ⟨(some 18), none, .q (.bin .sub (.t 17) (.v (.int .i64 1))), []⟩,
    ⟨(some 19), none, .q (.bin .rem (.t 18) (.v (.int .i64 26))), []⟩,
    ⟨(some 20), none, .q (.bin .add (.v (.int .i64 65)) (.t 19)), []⟩,
    ⟨(some 21), none, .q (.conv .u8 (.t 20)), []⟩,
    ⟨(some 22), none, .q (.bsl 1 [(.t 21)]), []⟩,
    ⟨(some 23), none, .q (.b2s (.t 22)), []⟩,
    ⟨(some 24), none, .q (.mv (.t 3)), []⟩,
    ⟨(some 25), none, .q (.bin .add (.t 23) (.t 24)), []⟩,
    ⟨(some 3), none, .q (.mv (.t 25)), []⟩]
def c12_12 : ACode := .block 1 c12_11
def c12_13 : ACode := .ops [
    ⟨(some 14), none, .q (.mv (.t 0)), []⟩,
    ⟨(some 15), none, .q (.bin .sub (.t 14) (.v (.int .i64 1))), []⟩,
    ⟨(some 16), none, .q (.bin .quo (.t 15) (.v (.int .i64 26))), []⟩,
    ⟨(some 0), none, .q (.mv (.t 16)), []⟩]
def c12_14 : ACode := .seq c12_12 c12_13
def c12_15 : ACode := .seq c12_10 c12_14
def c12_16 : ACode := .loop c12_15
def c12_17 : ACode := .block 0 c12_16
def c12_18 : ACode := .seq c12_7 c12_17
def c12_19 : ACode := .ops [
    ⟨(some 26), none, .q (.mv (.t 3)), []⟩,
    ⟨(some 2), none, .q (.mv (.t 26)), []⟩]
def c12_20 : ACode := .seq c12_19 .ret
def c12_21 : ACode := .seq c12_18 c12_20
def c12_22 : ACode := .seq c12_6 c12_21
def c12_23 : ACode := .seq c12_5 c12_22
def c12_24 : ACode := .seq c12_0 c12_23
@[go_sem] theorem c12_0_wp (P : Program) (Q : APost) (a : AFr) (σ : ASt) : c12_0.wp P Q a σ = ACode.wp P (.ops [
    ⟨(some 2), none, .q (.mv (.v (.str []))), []⟩]) Q a σ := id rfl
@[go_sem] theorem c12_1_wp (P : Program) (Q : APost) (a : AFr) (σ : ASt) : c12_1.wp P Q a σ = ACode.wp P (.ops [
    ⟨(some 4), none, .q (.mv (.t 0)), []⟩,
    ⟨(some 5), none, .q (.bin .lss (.t 4) (.v (.int .i64 0))), []⟩,
    ⟨(some 6), none, .q (.mv (.t 5)), []⟩,
    ⟨(some 7), (some (6, false)), .q (.mv (.t 0)), []⟩,
    ⟨(some 8), (some (6, false)), .q (.bin .geq (.t 7) (.v (.int .i64 700))), []⟩,
    ⟨(some 9), none, .q (.pick (.t 6) (.v (.bool true)) (.t 8)), []⟩]) Q a σ := id rfl
@[go_sem] theorem c12_2_wp (P : Program) (Q : APost) (a : AFr) (σ : ASt) : c12_2.wp P Q a σ = ACode.wp P (.ops [
    ⟨(some 2), none, .q (.mv (.v (.str []))), []⟩]) Q a σ := id rfl
@[go_sem] theorem c12_3_wp (P : Program) (Q : APost) (a : AFr) (σ : ASt) : c12_3.wp P Q a σ = ACode.wp P (.seq c12_2 .ret) Q a σ := id rfl
@[go_sem] theorem c12_4_wp (P : Program) (Q : APost) (a : AFr) (σ : ASt) : c12_4.wp P Q a σ = ACode.wp P (.cond (.t 9) c12_3 .skip) Q a σ := id rfl
@[go_sem] theorem c12_5_wp (P : Program) (Q : APost) (a : AFr) (σ : ASt) : c12_5.wp P Q a σ = ACode.wp P (.seq c12_1 c12_4) Q a σ := id rfl
@[go_sem] theorem c12_6_wp (P : Program) (Q : APost) (a : AFr) (σ : ASt) : c12_6.wp P Q a σ = ACode.wp P (.ops [
    ⟨(some 3), none, .q (.mv (.v (.str []))), []⟩]) Q a σ := id rfl
@[go_sem] theorem c12_7_wp (P : Program) (Q : APost) (a : AFr) (σ : ASt) : c12_7.wp P Q a σ = ACode.wp P (.ops [
    ⟨(some 10), none, .q (.mv (.t 0)), []⟩,
    ⟨(some 11), none, .q (.bin .add (.t 10) (.v (.int .i64 1))), []⟩,
    ⟨(some 0), none, .q (.mv (.t 11)), []⟩]) Q a σ := id rfl
@[go_sem] theorem c12_8_wp (P : Program) (Q : APost) (a : AFr) (σ : ASt) : c12_8.wp P Q a σ = ACode.wp P (.ops [
    ⟨(some 12), none, .q (.mv (.t 0)), []⟩,
    ⟨(some 13), none, .q (.bin .gtr (.t 12) (.v (.int .i64 0))), []⟩]) Q a σ := id rfl
@[go_sem] theorem c12_9_wp (P : Program) (Q : APost) (a : AFr) (σ : ASt) : c12_9.wp P Q a σ = ACode.wp P (.cond (.t 13) .skip (.exit 0)) Q a σ := id rfl
@[go_sem] theorem c12_10_wp (P : Program) (Q : APost) (a : AFr) (σ : ASt) : c12_10.wp P Q a σ = ACode.wp P (.seq c12_8 c12_9) Q a σ := id rfl
@[go_sem] theorem c12_11_wp (P : Program) (Q : APost) (a : AFr) (σ : ASt) : c12_11.wp P Q a σ = ACode.wp P (.ops [
    ⟨(some 17), none, .q (.mv (.t 0)), []⟩,
    ⟨(some 18), none, .q (.bin .sub (.t 17) (.v (.int .i64 1))), []⟩,
    ⟨(some 19), none, .q (.bin .rem (.t 18) (.v (.int .i64 26))), []⟩,
    ⟨(some 20), none, .q (.bin .add (.v (.int .i64 65)) (.t 19)), []⟩,
    ⟨(some 21), none, .q (.conv .u8 (.t 20)), []⟩,
    ⟨(some 22), none, .q (.bsl 1 [(.t 21)]), []⟩,
    ⟨(some 23), none, .q (.b2s (.t 22)), []⟩,
    ⟨(some 24), none, .q (.mv (.t 3)), []⟩,
    ⟨(some 25), none, .q (.bin .add (.t 23) (.t 24)), []⟩,
    ⟨(some 3), none, .q (.mv (.t 25)), []⟩]) Q a σ := id rfl
@[go_sem] theorem c12_12_wp (P : Program) (Q : APost) (a : AFr) (σ : ASt) : c12_12.wp P Q a σ = ACode.wp P (.block 1 c12_11) Q a σ := id rfl
@[go_sem] theorem c12_13_wp (P : Program) (Q : APost) (a : AFr) (σ : ASt) : c12_13.wp P Q a σ = ACode.wp P (.ops [
    ⟨(some 14), none, .q (.mv (.t 0)), []⟩,
    ⟨(some 15), none, .q (.bin .sub (.t 14) (.v (.int .i64 1))), []⟩,
    ⟨(some 16), none, .q (.bin .quo (.t 15) (.v (.int .i64 26))), []⟩,
    ⟨(some 0), none, .q (.mv (.t 16)), []⟩]) Q a σ := id rfl
@[go_sem] theorem c12_14_wp (P : Program) (Q : APost) (a : AFr) (σ : ASt) : c12_14.wp P Q a σ = ACode.wp P (.seq c12_12 c12_13) Q a σ := id rfl
@[go_sem] theorem c12_15_wp (P : Program) (Q : APost) (a : AFr) (σ : ASt) : c12_15.wp P Q a σ = ACode.wp P (.seq c12_10 c12_14) Q a σ := id rfl
@[go_sem] theorem c12_16_wp (P : Program) (Q : APost) (a : AFr) (σ : ASt) : c12_16.wp P Q a σ = ACode.wp P (.loop c12_15) Q a σ := id rfl
@[go_sem] theorem c12_17_wp (P : Program) (Q : APost) (a : AFr) (σ : ASt) : c12_17.wp P Q a σ = ACode.wp P (.block 0 c12_16) Q a σ := id rfl
@[go_sem] theorem c12_18_wp (P : Program) (Q : APost) (a : AFr) (σ : ASt) : c12_18.wp P Q a σ = ACode.wp P (.seq c12_7 c12_17) Q a σ := id rfl
@[go_sem] theorem c12_19_wp (P : Program) (Q : APost) (a : AFr) (σ : ASt) : c12_19.wp P Q a σ = ACode.wp P (.ops [
    ⟨(some 26), none, .q (.mv (.t 3)), []⟩,
    ⟨(some 2), none, .q (.mv (.t 26)), []⟩]) Q a σ := id rfl
@[go_sem] theorem c12_20_wp (P : Program) (Q : APost) (a : AFr) (σ : ASt) : c12_20.wp P Q a σ = ACode.wp P (.seq c12_19 .ret) Q a σ := id rfl
@[go_sem] theorem c12_21_wp (P : Program) (Q : APost) (a : AFr) (σ : ASt) : c12_21.wp P Q a σ = ACode.wp P (.seq c12_18 c12_20) Q a σ := id rfl
@[go_sem] theorem c12_22_wp (P : Program) (Q : APost) (a : AFr) (σ : ASt) : c12_22.wp P Q a σ = ACode.wp P (.seq c12_6 c12_21) Q a σ := id rfl
@[go_sem] theorem c12_23_wp (P : Program) (Q : APost) (a : AFr) (σ : ASt) : c12_23.wp P Q a σ = ACode.wp P (.seq c12_5 c12_22) Q a σ := id rfl
@[go_sem] theorem c12_24_wp (P : Program) (Q : APost) (a : AFr) (σ : ASt) : c12_24.wp P Q a σ = ACode.wp P (.seq c12_0 c12_23) Q a σ := id rfl
def c12 : AFn := ⟨27, [.t 2], c12_24⟩
set_option maxRecDepth 100000 in
theorem c12_ok : compF Try.prog Try.f12 = some c12 := by kernel_rfl
theorem a12 {args : List AV} {σ : ASt} {R : AV → ASt → Prop} (hl : args.length ≤ 27) (h : c12_24.wp Try.prog (RetQ [.t 2] R) (init args) σ) : ACalls Try.prog 12 args σ R := acalls_of Try.func12 c12_ok hl h

/-! 14: (tabular/addr.Ref).Good -/
def c14_0 : ACode := .ops [
    ⟨(some 1), none, .e (.box (.t 0)), []⟩,
    ⟨(some 2), none, .q (.mv (.v (.bool false))), []⟩]
def c14_1 : ACode := .ops [
    ⟨(some 3), none, .q (.fa 0 (.t 1)), []⟩,
    ⟨(some 4), none, .q (.ld none (.t 3)), []⟩,
    ⟨(some 5), none, .q (.bin .geq (.t 4) (.v (.int .i64 0))), []⟩,
    ⟨(some 6), none, .q (.mv (.t 5)), []⟩,
    ⟨(some 7), (some (6, true)), .q (.fa 0 (.t 1)), []⟩,
    ⟨(some 8), (some (6, true)), .q (.ld none (.t 7)), []⟩,
    ⟨(some 9), (some (6, true)), .q (.bin .lss (.t 8) (.v (.int .i64 3000))), []⟩,
    ⟨(some 10), none, .q (.pick (.t 6) (.t 9) (.v (.bool false))), []⟩,
    ⟨(some 11), none, .q (.mv (.t 10)), []⟩,
    ⟨(some 12), (some (11, true)), .q (.fa 1 (.t 1)), []⟩,
    ⟨(some 13), (some (11, true)), .q (.ld none (.t 12)), []⟩,
    ⟨(some 14), (some (11, true)), .q (.bin .geq (.t 13) (.v (.int .i64 0))), []⟩,
    ⟨(some 15), none, .q (.pick (.t 11) (.t 14) (.v (.bool false))), []⟩,
    ⟨(some 16), none, .q (.mv (.t 15)), []⟩,
    ⟨(some 17), (some (16, true)), .q (.fa 1 (.t 1)), []⟩,
    ⟨(some 18), (some (16, true)), .q (.ld none (.t 17)), []⟩,
    ⟨(some 19), (some (16, true)), .q (.bin .lss (.t 18) (.v (.int .i64 700))), []⟩,
    ⟨(some 20), none, .q (.pick (.t 16) (.t 19) (.v (.bool false))), []⟩,
    ⟨(some 2), none, .q (.mv (.t 20)), []⟩]
def c14_2 : ACode := .seq c14_1 .ret
def c14_3 : ACode := .seq c14_0 c14_2
@[go_sem] theorem c14_0_wp (P : Program) (Q : APost) (a : AFr) (σ : ASt) : c14_0.wp P Q a σ = ACode.wp P (.ops [
    ⟨(some 1), none, .e (.box (.t 0)), []⟩,
    ⟨(some 2), none, .q (.mv (.v (.bool false))), []⟩]) Q a σ := id rfl
@[go_sem] theorem c14_1_wp (P : Program) (Q : APost) (a : AFr) (σ : ASt) : c14_1.wp P Q a σ = ACode.wp P (.ops [
    ⟨(some 3), none, .q (.fa 0 (.t 1)), []⟩,
    ⟨(some 4), none, .q (.ld none (.t 3)), []⟩,
    ⟨(some 5), none, .q (.bin .geq (.t 4) (.v (.int .i64 0))), []⟩,
    ⟨(some 6), none, .q (.mv (.t 5)), []⟩,
    ⟨(some 7), (some (6, true)), .q (.fa 0 (.t 1)), []⟩,
    ⟨(some 8), (some (6, true)), .q (.ld none (.t 7)), []⟩,
    ⟨(some 9), (some (6, true)), .q (.bin .lss (.t 8) (.v (.int .i64 3000))), []⟩,
    ⟨(some 10), none, .q (.pick (.t 6) (.t 9) (.v (.bool false))), []⟩,
    ⟨(some 11), none, .q (.mv (.t 10)), []⟩,
    ⟨(some 12), (some (11, true)), .q (.fa 1 (.t 1)), []⟩,
    ⟨(some 13), (some (11, true)), .q (.ld none (.t 12)), []⟩,
    ⟨(some 14), (some (11, true)), .q (.bin .geq (.t 13) (.v (.int .i64 0))), []⟩,
    ⟨(some 15), none, .q (.pick (.t 11) (.t 14) (.v (.bool false))), []⟩,
    ⟨(some 16), none, .q (.mv (.t 15)), []⟩,
    ⟨(some 17), (some (16, true)), .q (.fa 1 (.t 1)), []⟩,
    ⟨(some 18), (some (16, true)), .q (.ld none (.t 17)), []⟩,
    ⟨(some 19), (some (16, true)), .q (.bin .lss (.t 18) (.v (.int .i64 700))), []⟩,
    ⟨(some 20), none, .q (.pick (.t 16) (.t 19) (.v (.bool false))), []⟩,
    ⟨(some 2), none, .q (.mv (.t 20)), []⟩]) Q a σ := id rfl
@[go_sem] theorem c14_2_wp (P : Program) (Q : APost) (a : AFr) (σ : ASt) : c14_2.wp P Q a σ = ACode.wp P (.seq c14_1 .ret) Q a σ := id rfl
@[go_sem] theorem c14_3_wp (P : Program) (Q : APost) (a : AFr) (σ : ASt) : c14_3.wp P Q a σ = ACode.wp P (.seq c14_0 c14_2) Q a σ := id rfl
def c14 : AFn := ⟨21, [.t 2], c14_3⟩
set_option maxRecDepth 100000 in
theorem c14_ok : compF Try.prog Try.f14 = some c14 := by kernel_rfl
theorem a14 {args : List AV} {σ : ASt} {R : AV → ASt → Prop} (hl : args.length ≤ 21) (h : c14_3.wp Try.prog (RetQ [.t 2] R) (init args) σ) : ACalls Try.prog 14 args σ R := acalls_of Try.func14 c14_ok hl h

/-! 15: (tabular/addr.Area).Norm -/
def c15_0 : ACode := .ops [
    ⟨(some 1), none, .e (.box (.t 0)), []⟩,
    ⟨(some 2), none, .e (.alloc [(.int .i64 0), (.int .i64 0), (.bool false), (.bool false), (.int .i64 0), (.int .i64 0), (.bool false), (.bool false)]), []⟩]
def c15_1 : ACode := .ops [
    ⟨(some 3), none, .q (.fa 0 (.t 1)), []⟩,
    ⟨(some 4), none, .q (.fa 0 (.t 3)), []⟩,
    ⟨(some 5), none, .q (.ld none (.t 4)), []⟩,
    ⟨(some 6), none, .q (.fa 4 (.t 1)), []⟩,
    ⟨(some 7), none, .q (.fa 0 (.t 6)), []⟩,
    ⟨(some 8), none, .q (.ld none (.t 7)), []⟩,
    ⟨(some 9), none, .q (.bin .gtr (.t 5) (.t 8)), []⟩]
def c15_2 : ACode := .ops [
    ⟨(some 10), none, .q (.fa 4 (.t 1)), []⟩,
    ⟨(some 11), none, .q (.fa 0 (.t 10)), []⟩,
    ⟨(some 12), none, .q (.ld none (.t 11)), []⟩,
    ⟨(some 13), none, .q (.fa 0 (.t 1)), []⟩,
    ⟨(some 14), none, .q (.fa 0 (.t 13)), []⟩,
    ⟨(some 15), none, .q (.ld none (.t 14)), []⟩,
    ⟨(some 16), none, .q (.fa 0 (.t 1)), []⟩,
    ⟨(some 17), none, .q (.fa 0 (.t 16)), []⟩,
    ⟨none, none, .e (.store 1 (.t 17) (.t 12)), []⟩,
    ⟨(some 18), none, .q (.fa 4 (.t 1)), []⟩,
    ⟨(some 19), none, .q (.fa 0 (.t 18)), []⟩,
    ⟨none, none, .e (.store 1 (.t 19) (.t 15)), []⟩]
def c15_3 : ACode := .ops [
    ⟨(some 20), none, .q (.fa 4 (.t 1)), []⟩,
    ⟨(some 21), none, .q (.fa 2 (.t 20)), []⟩,
    ⟨(some 22), none, .q (.ld none (.t 21)), []⟩,
    ⟨(some 23), none, .q (.fa 0 (.t 1)), []⟩,
    ⟨(some 24), none, .q (.fa 2 (.t 23)), []⟩,
    ⟨(some 25), none, .q (.ld none (.t 24)), []⟩,
    ⟨(some 26), none, .q (.fa 0 (.t 1)), []⟩,
    ⟨(some 27), none, .q (.fa 2 (.t 26)), []⟩,
    ⟨none, none, .e (.store 1 (.t 27) (.t 22)), []⟩,
    ⟨(some 28), none, .q (.fa 4 (.t 1)), []⟩,
    ⟨(some 29), none, .q (.fa 2 (.t 28)), []⟩,
    ⟨none, none, .e (.store 1 (.t 29) (.t 25)), []⟩]
def c15_4 : ACode := .seq c15_2 c15_3
def c15_5 : ACode := .cond (.t 9) c15_4 .skip
def c15_6 : ACode := .seq c15_1 c15_5
def c15_7 : ACode := .ops [
    ⟨(some 30), none, .q (.fa 0 (.t 1)), []⟩,
    ⟨(some 31), none, .q (.fa 1 (.t 30)), []⟩,
    ⟨(some 32), none, .q (.ld none (.t 31)), []⟩,
    ⟨(some 33), none, .q (.fa 4 (.t 1)), []⟩,
    ⟨(some 34), none, .q (.fa 1 (.t 33)), []⟩,
    ⟨(some 35), none, .q (.ld none (.t 34)), []⟩,
    ⟨(some 36), none, .q (.bin .gtr (.t 32) (.t 35)), []⟩]
def c15_8 : ACode := .ops [
    ⟨(some 37), none, .q (.fa 4 (.t 1)), []⟩,
    ⟨(some 38), none, .q (.fa 1 (.t 37)), []⟩,
    ⟨(some 39), none, .q (.ld none (.t 38)), []⟩,
    ⟨(some 40), none, .q (.fa 0 (.t 1)), []⟩,
    ⟨(some 41), none, .q (.fa 1 (.t 40)), []⟩,
    ⟨(some 42), none, .q (.ld none (.t 41)), []⟩,
    ⟨(some 43), none, .q (.fa 0 (.t 1)), []⟩,
    ⟨(some 44), none, .q (.fa 1 (.t 43)), []⟩,
    ⟨none, none, .e (.store 1 (.t 44) (.t 39)), []⟩,
    ⟨(some 45), none, .q (.fa 4 (.t 1)), []⟩,
    ⟨(some 46), none, .q (.fa 1 (.t 45)), []⟩,
    ⟨none, none, .e (.store 1 (.t 46) (.t 42)), []⟩]
def c15_9 : ACode := .ops [
    ⟨(some 47), none, .q (.fa 4 (.t 1)), []⟩,
    ⟨(some 48), none, .q (.fa 3 (.t 47)), []⟩,
    ⟨(some 49), none, .q (.ld none (.t 48)), []⟩,
    ⟨(some 50), none, .q (.fa 0 (.t 1)), []⟩,
    ⟨(some 51), none, .q (.fa 3 (.t 50)), []⟩,
    ⟨(some 52), none, .q (.ld none (.t 51)), []⟩,
    ⟨(some 53), none, .q (.fa 0 (.t 1)), []⟩,
    ⟨(some 54), none, .q (.fa 3 (.t 53)), []⟩,
    ⟨none, none, .e (.store 1 (.t 54) (.t 49)), []⟩,
    ⟨(some 55), none, .q (.fa 4 (.t 1)), []⟩,
    ⟨(some 56), none, .q (.fa 3 (.t 55)), []⟩,
    ⟨none, none, .e (.store 1 (.t 56) (.t 52)), []⟩]
def c15_10 : ACode := .seq c15_8 c15_9
def c15_11 : ACode := .cond (.t 36) c15_10 .skip
def c15_12 : ACode := .seq c15_7 c15_11
def c15_13 : ACode := .ops [
    ⟨(some 57), none, .q (.ld (some 8) (.t 1)), []⟩,
    ⟨none, none, .e (.store 8 (.t 2) (.t 57)), []⟩]
def c15_14 : ACode := .seq c15_13 .ret
def c15_15 : ACode := .seq c15_12 c15_14
def c15_16 : ACode := .seq c15_6 c15_15
def c15_17 : ACode := .seq c15_0 c15_16
@[go_sem] theorem c15_0_wp (P : Program) (Q : APost) (a : AFr) (σ : ASt) : c15_0.wp P Q a σ = ACode.wp P (.ops [
    ⟨(some 1), none, .e (.box (.t 0)), []⟩,
    ⟨(some 2), none, .e (.alloc [(.int .i64 0), (.int .i64 0), (.bool false), (.bool false), (.int .i64 0), (.int .i64 0), (.bool false), (.bool false)]), []⟩]) Q a σ := id rfl
@[go_sem] theorem c15_1_wp (P : Program) (Q : APost) (a : AFr) (σ : ASt) : c15_1.wp P Q a σ = ACode.wp P (.ops [
    ⟨(some 3), none, .q (.fa 0 (.t 1)), []⟩,
    ⟨(some 4), none, .q (.fa 0 (.t 3)), []⟩,
    ⟨(some 5), none, .q (.ld none (.t 4)), []⟩,
    ⟨(some 6), none, .q (.fa 4 (.t 1)), []⟩,
    ⟨(some 7), none, .q (.fa 0 (.t 6)), []⟩,
    ⟨(some 8), none, .q (.ld none (.t 7)), []⟩,
    ⟨(some 9), none, .q (.bin .gtr (.t 5) (.t 8)), []⟩]) Q a σ := id rfl
@[go_sem] theorem c15_2_wp (P : Program) (Q : APost) (a : AFr) (σ : ASt) : c15_2.wp P Q a σ = ACode.wp P (.ops [
    ⟨(some 10), none, .q (.fa 4 (.t 1)), []⟩,
    ⟨(some 11), none, .q (.fa 0 (.t 10)), []⟩,
    ⟨(some 12), none, .q (.ld none (.t 11)), []⟩,
    ⟨(some 13), none, .q (.fa 0 (.t 1)), []⟩,
    ⟨(some 14), none, .q (.fa 0 (.t 13)), []⟩,
    ⟨(some 15), none, .q (.ld none (.t 14)), []⟩,
    ⟨(some 16), none, .q (.fa 0 (.t 1)), []⟩,
    ⟨(some 17), none, .q (.fa 0 (.t 16)), []⟩,
    ⟨none, none, .e (.store 1 (.t 17) (.t 12)), []⟩,
    ⟨(some 18), none, .q (.fa 4 (.t 1)), []⟩,
    ⟨(some 19), none, .q (.fa 0 (.t 18)), []⟩,
    ⟨none, none, .e (.store 1 (.t 19) (.t 15)), []⟩]) Q a σ := id rfl
@[go_sem] theorem c15_3_wp (P : Program) (Q : APost) (a : AFr) (σ : ASt) : c15_3.wp P Q a σ = ACode.wp P (.ops [
    ⟨(some 20), none, .q (.fa 4 (.t 1)), []⟩,
    ⟨(some 21), none, .q (.fa 2 (.t 20)), []⟩,
    ⟨(some 22), none, .q (.ld none (.t 21)), []⟩,
    ⟨(some 23), none, .q (.fa 0 (.t 1)), []⟩,
    ⟨(some 24), none, .q (.fa 2 (.t 23)), []⟩,
    ⟨(some 25), none, .q (.ld none (.t 24)), []⟩,
    ⟨(some 26), none, .q (.fa 0 (.t 1)), []⟩,
    ⟨(some 27), none, .q (.fa 2 (.t 26)), []⟩,
    ⟨none, none, .e (.store 1 (.t 27) (.t 22)), []⟩,
    ⟨(some 28), none, .q (.fa 4 (.t 1)), []⟩,
    ⟨(some 29), none, .q (.fa 2 (.t 28)), []⟩,
    ⟨none, none, .e (.store 1 (.t 29) (.t 25)), []⟩]) Q a σ := id rfl
@[go_sem] theorem c15_4_wp (P : Program) (Q : APost) (a : AFr) (σ : ASt) : c15_4.wp P Q a σ = ACode.wp P (.seq c15_2 c15_3) Q a σ := id rfl
@[go_sem] theorem c15_5_wp (P : Program) (Q : APost) (a : AFr) (σ : ASt) : c15_5.wp P Q a σ = ACode.wp P (.cond (.t 9) c15_4 .skip) Q a σ := id rfl
@[go_sem] theorem c15_6_wp (P : Program) (Q : APost) (a : AFr) (σ : ASt) : c15_6.wp P Q a σ = ACode.wp P (.seq c15_1 c15_5) Q a σ := id rfl
@[go_sem] theorem c15_7_wp (P : Program) (Q : APost) (a : AFr) (σ : ASt) : c15_7.wp P Q a σ = ACode.wp P (.ops [
    ⟨(some 30), none, .q (.fa 0 (.t 1)), []⟩,
    ⟨(some 31), none, .q (.fa 1 (.t 30)), []⟩,
    ⟨(some 32), none, .q (.ld none (.t 31)), []⟩,
    ⟨(some 33), none, .q (.fa 4 (.t 1)), []⟩,
    ⟨(some 34), none, .q (.fa 1 (.t 33)), []⟩,
    ⟨(some 35), none, .q (.ld none (.t 34)), []⟩,
    ⟨(some 36), none, .q (.bin .gtr (.t 32) (.t 35)), []⟩]) Q a σ := id rfl
@[go_sem] theorem c15_8_wp (P : Program) (Q : APost) (a : AFr) (σ : ASt) : c15_8.wp P Q a σ = ACode.wp P (.ops [
    ⟨(some 37), none, .q (.fa 4 (.t 1)), []⟩,
    ⟨(some 38), none, .q (.fa 1 (.t 37)), []⟩,
    ⟨(some 39), none, .q (.ld none (.t 38)), []⟩,
    ⟨(some 40), none, .q (.fa 0 (.t 1)), []⟩,
    ⟨(some 41), none, .q (.fa 1 (.t 40)), []⟩,
    ⟨(some 42), none, .q (.ld none (.t 41)), []⟩,
    ⟨(some 43), none, .q (.fa 0 (.t 1)), []⟩,
    ⟨(some 44), none, .q (.fa 1 (.t 43)), []⟩,
    ⟨none, none, .e (.store 1 (.t 44) (.t 39)), []⟩,
    ⟨(some 45), none, .q (.fa 4 (.t 1)), []⟩,
    ⟨(some 46), none, .q (.fa 1 (.t 45)), []⟩,
    ⟨none, none, .e (.store 1 (.t 46) (.t 42)), []⟩]) Q a σ := id rfl
@[go_sem] theorem c15_9_wp (P : Program) (Q : APost) (a : AFr) (σ : ASt) : c15_9.wp P Q a σ = ACode.wp P (.ops [
    ⟨(some 47), none, .q (.fa 4 (.t 1)), []⟩,
    ⟨(some 48), none, .q (.fa 3 (.t 47)), []⟩,
    ⟨(some 49), none, .q (.ld none (.t 48)), []⟩,
    ⟨(some 50), none, .q (.fa 0 (.t 1)), []⟩,
    ⟨(some 51), none, .q (.fa 3 (.t 50)), []⟩,
    ⟨(some 52), none, .q (.ld none (.t 51)), []⟩,
    ⟨(some 53), none, .q (.fa 0 (.t 1)), []⟩,
    ⟨(some 54), none, .q (.fa 3 (.t 53)), []⟩,
    ⟨none, none, .e (.store 1 (.t 54) (.t 49)), []⟩,
    ⟨(some 55), none, .q (.fa 4 (.t 1)), []⟩,
    ⟨(some 56), none, .q (.fa 3 (.t 55)), []⟩,
    ⟨none, none, .e (.store 1 (.t 56) (.t 52)), []⟩]) Q a σ := id rfl
@[go_sem] theorem c15_10_wp (P : Program) (Q : APost) (a : AFr) (σ : ASt) : c15_10.wp P Q a σ = ACode.wp P (.seq c15_8 c15_9) Q a σ := id rfl
@[go_sem] theorem c15_11_wp (P : Program) (Q : APost) (a : AFr) (σ : ASt) : c15_11.wp P Q a σ = ACode.wp P (.cond (.t 36) c15_10 .skip) Q a σ := id rfl
@[go_sem] theorem c15_12_wp (P : Program) (Q : APost) (a : AFr) (σ : ASt) : c15_12.wp P Q a σ = ACode.wp P (.seq c15_7 c15_11) Q a σ := id rfl
@[go_sem] theorem c15_13_wp (P : Program) (Q : APost) (a : AFr) (σ : ASt) : c15_13.wp P Q a σ = ACode.wp P (.ops [
    ⟨(some 57), none, .q (.ld (some 8) (.t 1)), []⟩,
    ⟨none, none, .e (.store 8 (.t 2) (.t 57)), []⟩]) Q a σ := id rfl
@[go_sem] theorem c15_14_wp (P : Program) (Q : APost) (a : AFr) (σ : ASt) : c15_14.wp P Q a σ = ACode.wp P (.seq c15_13 .ret) Q a σ := id rfl
@[go_sem] theorem c15_15_wp (P : Program) (Q : APost) (a : AFr) (σ : ASt) : c15_15.wp P Q a σ = ACode.wp P (.seq c15_12 c15_14) Q a σ := id rfl
@[go_sem] theorem c15_16_wp (P : Program) (Q : APost) (a : AFr) (σ : ASt) : c15_16.wp P Q a σ = ACode.wp P (.seq c15_6 c15_15) Q a σ := id rfl
@[go_sem] theorem c15_17_wp (P : Program) (Q : APost) (a : AFr) (σ : ASt) : c15_17.wp P Q a σ = ACode.wp P (.seq c15_0 c15_16) Q a σ := id rfl
def c15 : AFn := ⟨58, [.c 2 (some 8)], c15_17⟩
set_option maxRecDepth 100000 in
theorem c15_ok : compF Try.prog Try.f15 = some c15 := by kernel_rfl
theorem a15 {args : List AV} {σ : ASt} {R : AV → ASt → Prop} (hl : args.length ≤ 58) (h : c15_17.wp Try.prog (RetQ [.c 2 (some 8)] R) (init args) σ) : ACalls Try.prog 15 args σ R := acalls_of Try.func15 c15_ok hl h

/-! 16: (tabular/addr.Area).Rect -/
def c16_0 : ACode := .ops [
    ⟨(some 1), none, .e (.box (.t 0)), []⟩,
    ⟨(some 2), none, .e (.alloc [(.int .i64 0), (.int .i64 0), (.int .i64 0), (.int .i64 0)]), []⟩]
def c16_1 : ACode := .ops [
    ⟨(some 3), none, .q (.ld (some 8) (.t 1)), []⟩,
    ⟨(some 4), none, .e (.call 15 [(.t 3)]), []⟩,
    ⟨none, none, .e (.store 8 (.t 1) (.t 4)), []⟩]
def c16_2 : ACode := .ops [
    ⟨(some 5), none, .q (.fa 0 (.t 1)), []⟩,
    ⟨(some 6), none, .q (.fa 0 (.t 5)), []⟩,
    ⟨(some 7), none, .q (.ld none (.t 6)), []⟩,
    ⟨(some 8), none, .q (.fa 0 (.t 1)), []⟩,
    ⟨(some 9), none, .q (.fa 1 (.t 8)), []⟩,
    ⟨(some 10), none, .q (.ld none (.t 9)), []⟩,
    ⟨(some 11), none, .q (.fa 4 (.t 1)), []⟩,
    ⟨(some 12), none, .q (.fa 0 (.t 11)), []⟩,
    ⟨(some 13), none, .q (.ld none (.t 12)), []⟩,
    ⟨(some 14), none, .q (.fa 0 (.t 1)), []⟩,
    ⟨(some 15), none, .q (.fa 0 (.t 14)), []⟩,
    ⟨(some 16), none, .q (.ld none (.t 15)), []⟩,
    ⟨(some 17), none, .q (.bin .sub (.t 13) (.t 16)), []⟩,
    ⟨(some 18), none, .q (.bin .add (.t 17) (.v (.int .i64 1))), []⟩,
    ⟨(some 19), none, .q (.fa 4 (.t 1)), []⟩,
    ⟨(some 20), none, .q (.fa 1 (.t 19)), []⟩,
    ⟨(some 21), none, .q (.ld none (.t 20)), []⟩,
    ⟨(some 22), none, .q (.fa 0 (.t 1)), []⟩,
    ⟨(some 23), none, .q (.fa 1 (.t 22)), []⟩,
    ⟨(some 24), none, .q (.ld none (.t 23)), []⟩,
    ⟨(some 25), none, .q (.bin .sub (.t 21) (.t 24)), []⟩,
    ⟨(some 26), none, .q (.bin .add (.t 25) (.v (.int .i64 1))), []⟩,
    ⟨(some 27), none, .q (.build [(.int .i64 0), (.int .i64 0), (.int .i64 0), (.int .i64 0)] [(0, 1, (.t 7)), (1, 1, (.t 10)), (2, 1, (.t 18)), (3, 1, (.t 26))]), []⟩,
    ⟨none, none, .e (.store 4 (.t 2) (.t 27)), []⟩]
def c16_3 : ACode := .seq c16_2 .ret
def c16_4 : ACode := .seq c16_1 c16_3
def c16_5 : ACode := .seq c16_0 c16_4
@[go_sem] theorem c16_0_wp (P : Program) (Q : APost) (a : AFr) (σ : ASt) : c16_0.wp P Q a σ = ACode.wp P (.ops [
    ⟨(some 1), none, .e (.box (.t 0)), []⟩,
    ⟨(some 2), none, .e (.alloc [(.int .i64 0), (.int .i64 0), (.int .i64 0), (.int .i64 0)]), []⟩]) Q a σ := id rfl
@[go_sem] theorem c16_1_wp (P : Program) (Q : APost) (a : AFr) (σ : ASt) : c16_1.wp P Q a σ = ACode.wp P (.ops [
    ⟨(some 3), none, .q (.ld (some 8) (.t 1)), []⟩,
    ⟨(some 4), none, .e (.call 15 [(.t 3)]), []⟩,
    ⟨none, none, .e (.store 8 (.t 1) (.t 4)), []⟩]) Q a σ := id rfl
@[go_sem] theorem c16_2_wp (P : Program) (Q : APost) (a : AFr) (σ : ASt) : c16_2.wp P Q a σ = ACode.wp P (.ops [
    ⟨(some 5), none, .q (.fa 0 (.t 1)), []⟩,
    ⟨(some 6), none, .q (.fa 0 (.t 5)), []⟩,
    ⟨(some 7), none, .q (.ld none (.t 6)), []⟩,
    ⟨(some 8), none, .q (.fa 0 (.t 1)), []⟩,
    ⟨(some 9), none, .q (.fa 1 (.t 8)), []⟩,
    ⟨(some 10), none, .q (.ld none (.t 9)), []⟩,
    ⟨(some 11), none, .q (.fa 4 (.t 1)), []⟩,
    ⟨(some 12), none, .q (.fa 0 (.t 11)), []⟩,
    ⟨(some 13), none, .q (.ld none (.t 12)), []⟩,
    ⟨(some 14), none, .q (.fa 0 (.t 1)), []⟩,
    ⟨(some 15), none, .q (.fa 0 (.t 14)), []⟩,
    ⟨(some 16), none, .q (.ld none (.t 15)), []⟩,
    ⟨(some 17), none, .q (.bin .sub (.t 13) (.t 16)), []⟩,
    ⟨(some 18), none, .q (.bin .add (.t 17) (.v (.int .i64 1))), []⟩,
    ⟨(some 19), none, .q (.fa 4 (.t 1)), []⟩,
    ⟨(some 20), none, .q (.fa 1 (.t 19)), []⟩,
    ⟨(some 21), none, .q (.ld none (.t 20)), []⟩,
    ⟨(some 22), none, .q (.fa 0 (.t 1)), []⟩,
    ⟨(some 23), none, .q (.fa 1 (.t 22)), []⟩,
    ⟨(some 24), none, .q (.ld none (.t 23)), []⟩,
    ⟨(some 25), none, .q (.bin .sub (.t 21) (.t 24)), []⟩,
    ⟨(some 26), none, .q (.bin .add (.t 25) (.v (.int .i64 1))), []⟩,
    ⟨(some 27), none, .q (.build [(.int .i64 0), (.int .i64 0), (.int .i64 0), (.int .i64 0)] [(0, 1, (.t 7)), (1, 1, (.t 10)), (2, 1, (.t 18)), (3, 1, (.t 26))]), []⟩,
    ⟨none, none, .e (.store 4 (.t 2) (.t 27)), []⟩]) Q a σ := id rfl
@[go_sem] theorem c16_3_wp (P : Program) (Q : APost) (a : AFr) (σ : ASt) : c16_3.wp P Q a σ = ACode.wp P (.seq c16_2 .ret) Q a σ := id rfl
@[go_sem] theorem c16_4_wp (P : Program) (Q : APost) (a : AFr) (σ : ASt) : c16_4.wp P Q a σ = ACode.wp P (.seq c16_1 c16_3) Q a σ := id rfl
@[go_sem] theorem c16_5_wp (P : Program) (Q : APost) (a : AFr) (σ : ASt) : c16_5.wp P Q a σ = ACode.wp P (.seq c16_0 c16_4) Q a σ := id rfl
def c16 : AFn := ⟨28, [.c 2 (some 4)], c16_5⟩
set_option maxRecDepth 100000 in
theorem c16_ok : compF Try.prog Try.f16 = some c16 := by kernel_rfl
theorem a16 {args : List AV} {σ : ASt} {R : AV → ASt → Prop} (hl : args.length ≤ 28) (h : c16_5.wp Try.prog (RetQ [.c 2 (some 4)] R) (init args) σ) : ACalls Try.prog 16 args σ R := acalls_of Try.func16 c16_ok hl h

/-! 17: (tabular/addr.Rect).Has -/
def c17_0 : ACode := .ops [
    ⟨(some 3), none, .e (.box (.t 0)), []⟩,
    ⟨(some 6), none, .q (.mv (.v (.bool false))), []⟩]
def c17_1 : ACode := .ops [
    ⟨(some 7), none, .q (.mv (.t 1)), []⟩,
    ⟨(some 8), none, .q (.fa 0 (.t 3)), []⟩,
    ⟨(some 9), none, .q (.ld none (.t 8)), []⟩,
    ⟨(some 10), none, .q (.bin .geq (.t 7) (.t 9)), []⟩,
    ⟨(some 11), none, .q (.mv (.t 10)), []⟩,
    ⟨(some 12), (some (11, true)), .q (.mv (.t 1)), []⟩,
    ⟨(some 13), (some (11, true)), .q (.fa 0 (.t 3)), []⟩,
    ⟨(some 14), (some (11, true)), .q (.ld none (.t 13)), []⟩,
    ⟨(some 15), (some (11, true)), .q (.bin .sub (.t 12) (.t 14)), []⟩,
    ⟨(some 16), (some (11, true)), .q (.fa 2 (.t 3)), []⟩,
    ⟨(some 17), (some (11, true)), .q (.ld none (.t 16)), []⟩,
    ⟨(some 18), (some (11, true)), .q (.bin .lss (.t 15) (.t 17)), []⟩,
    ⟨(some 19), none, .q (.pick (.t 11) (.t 18) (.v (.bool false))), []⟩,
    ⟨(some 20), none, .q (.mv (.t 19)), []⟩,
    ⟨(some 21), (some (20, true)), .q (.mv (.t 2)), []⟩,
    ⟨(some 22), (some (20, true)), .q (.fa 1 (.t 3)), []⟩,
    ⟨(some 23), (some (20, true)), .q (.ld none (.t 22)), []⟩,
    ⟨(some 24), (some (20, true)), .q (.bin .geq (.t 21) (.t 23)), []⟩,
    ⟨(some 25), none, .q (.pick (.t 20) (.t 24) (.v (.bool false))), []⟩,
    ⟨(some 26), none, .q (.mv (.t 25)), []⟩,
    ⟨(some 27), (some (26, true)), .q (.mv (.t 2)), []⟩,
    ⟨(some 28), (some (26, true)), .q (.fa 1 (.t 3)), []⟩,
    ⟨(some 29), (some (26, true)), .q (.ld none (.t 28)), []⟩,
    ⟨(some 30), (some (26, true)), .q (.bin .sub (.t 27) (.t 29)), []⟩,
    ⟨(some 31), (some (26, true)), .q (.fa 3 (.t 3)), []⟩,
    ⟨(some 32), (some (26, true)), .q (.ld none (.t 31)), []⟩,
    ⟨(some 33), (some (26, true)), .q (.bin .lss (.t 30) (.t 32)), []⟩,
    ⟨(some 34), none, .q (.pick (.t 26) (.t 33) (.v (.bool false))), []⟩,
    ⟨(some 6), none, .q (.mv (.t 34)), []⟩]
def c17_2 : ACode := .seq c17_1 .ret
def c17_3 : ACode := .seq c17_0 c17_2
@[go_sem] theorem c17_0_wp (P : Program) (Q : APost) (a : AFr) (σ : ASt) : c17_0.wp P Q a σ = ACode.wp P (.ops [
    ⟨(some 3), none, .e (.box (.t 0)), []⟩,
    ⟨(some 6), none, .q (.mv (.v (.bool false))), []⟩]) Q a σ := id rfl
@[go_sem] theorem c17_1_wp (P : Program) (Q : APost) (a : AFr) (σ : ASt) : c17_1.wp P Q a σ = ACode.wp P (.ops [
    ⟨(some 7), none, .q (.mv (.t 1)), []⟩,
    ⟨(some 8), none, .q (.fa 0 (.t 3)), []⟩,
    ⟨(some 9), none, .q (.ld none (.t 8)), []⟩,
    ⟨(some 10), none, .q (.bin .geq (.t 7) (.t 9)), []⟩,
    ⟨(some 11), none, .q (.mv (.t 10)), []⟩,
    ⟨(some 12), (some (11, true)), .q (.mv (.t 1)), []⟩,
    ⟨(some 13), (some (11, true)), .q (.fa 0 (.t 3)), []⟩,
    ⟨(some 14), (some (11, true)), .q (.ld none (.t 13)), []⟩,
    ⟨(some 15), (some (11, true)), .q (.bin .sub (.t 12) (.t 14)), []⟩,
    ⟨(some 16), (some (11, true)), .q (.fa 2 (.t 3)), []⟩,
    ⟨(some 17), (some (11, true)), .q (.ld none (.t 16)), []⟩,
    ⟨(some 18), (some (11, true)), .q (.bin .lss (.t 15) (.t 17)), []⟩,
    ⟨(some 19), none, .q (.pick (.t 11) (.t 18) (.v (.bool false))), []⟩,
    ⟨(some 20), none, .q (.mv (.t 19)), []⟩,
    ⟨(some 21), (some (20, true)), .q (.mv (.t 2)), []⟩,
    ⟨(some 22), (some (20, true)), .q (.fa 1 (.t 3)), []⟩,
    ⟨(some 23), (some (20, true)), .q (.ld none (.t 22)), []⟩,
    ⟨(some 24), (some (20, true)), .q (.bin .geq (.t 21) (.t 23)), []⟩,
    ⟨(some 25), none, .q (.pick (.t 20) (.t 24) (.v (.bool false))), []⟩,
    ⟨(some 26), none, .q (.mv (.t 25)), []⟩,
    ⟨(some 27), (some (26, true)), .q (.mv (.t 2)), []⟩,
    ⟨(some 28), (some (26, true)), .q (.fa 1 (.t 3)), []⟩,
    ⟨(some 29), (some (26, true)), .q (.ld none (.t 28)), []⟩,
    ⟨(some 30), (some (26, true)), .q (.bin .sub (.t 27) (.t 29)), []⟩,
    ⟨(some 31), (some (26, true)), .q (.fa 3 (.t 3)), []⟩,
    ⟨(some 32), (some (26, true)), .q (.ld none (.t 31)), []⟩,
    ⟨(some 33), (some (26, true)), .q (.bin .lss (.t 30) (.t 32)), []⟩,
    ⟨(some 34), none, .q (.pick (.t 26) (.t 33) (.v (.bool false))), []⟩,
    ⟨(some 6), none, .q (.mv (.t 34)), []⟩]) Q a σ := id rfl
@[go_sem] theorem c17_2_wp (P : Program) (Q : APost) (a : AFr) (σ : ASt) : c17_2.wp P Q a σ = ACode.wp P (.seq c17_1 .ret) Q a σ := id rfl
@[go_sem] theorem c17_3_wp (P : Program) (Q : APost) (a : AFr) (σ : ASt) : c17_3.wp P Q a σ = ACode.wp P (.seq c17_0 c17_2) Q a σ := id rfl
def c17 : AFn := ⟨35, [.t 6], c17_3⟩
set_option maxRecDepth 100000 in
theorem c17_ok : compF Try.prog Try.f17 = some c17 := by kernel_rfl
theorem a17 {args : List AV} {σ : ASt} {R : AV → ASt → Prop} (hl : args.length ≤ 35) (h : c17_3.wp Try.prog (RetQ [.t 6] R) (init args) σ) : ACalls Try.prog 17 args σ R := acalls_of Try.func17 c17_ok hl h

/-! 18: (tabular/addr.Rect).Good -/
def c18_0 : ACode := .ops [
    ⟨(some 1), none, .e (.box (.t 0)), []⟩,
    ⟨(some 2), none, .q (.mv (.v (.bool false))), []⟩]
def c18_1 : ACode := .ops [
    ⟨(some 3), none, .q (.fa 0 (.t 1)), []⟩,
    ⟨(some 4), none, .q (.ld none (.t 3)), []⟩,
    ⟨(some 5), none, .q (.bin .geq (.t 4) (.v (.int .i64 0))), []⟩,
    ⟨(some 6), none, .q (.mv (.t 5)), []⟩,
    ⟨(some 7), (some (6, true)), .q (.fa 1 (.t 1)), []⟩,
    ⟨(some 8), (some (6, true)), .q (.ld none (.t 7)), []⟩,
    ⟨(some 9), (some (6, true)), .q (.bin .geq (.t 8) (.v (.int .i64 0))), []⟩,
    ⟨(some 10), none, .q (.pick (.t 6) (.t 9) (.v (.bool false))), []⟩,
    ⟨(some 11), none, .q (.mv (.t 10)), []⟩,
    ⟨(some 12), (some (11, true)), .q (.fa 2 (.t 1)), []⟩,
    ⟨(some 13), (some (11, true)), .q (.ld none (.t 12)), []⟩,
    ⟨(some 14), (some (11, true)), .q (.bin .gtr (.t 13) (.v (.int .i64 0))), []⟩,
    ⟨(some 15), none, .q (.pick (.t 11) (.t 14) (.v (.bool false))), []⟩,
    ⟨(some 16), none, .q (.mv (.t 15)), []⟩,
    ⟨(some 17), (some (16, true)), .q (.fa 3 (.t 1)), []⟩,
    ⟨(some 18), (some (16, true)), .q (.ld none (.t 17)), []⟩,
    ⟨(some 19), (some (16, true)), .q (.bin .gtr (.t 18) (.v (.int .i64 0))), []⟩,
    ⟨(some 20), none, .q (.pick (.t 16) (.t 19) (.v (.bool false))), []⟩,
    ⟨(some 21), none, .q (.mv (.t 20)), []⟩,
    ⟨(some 22), (some (21, true)), .q (.fa 2 (.t 1)), []⟩,
    ⟨(some 23), (some (21, true)), .q (.ld none (.t 22)), []⟩,
    ⟨(some 24), (some (21, true)), .q (.bin .leq (.t 23) (.v (.int .i64 3000))), []⟩,
    ⟨(some 25), none, .q (.pick (.t 21) (.t 24) (.v (.bool false))), []⟩,
    ⟨(some 26), none, .q (.mv (.t 25)), []⟩,
    ⟨(some 27), (some (26, true)), .q (.fa 3 (.t 1)), []⟩,
    ⟨(some 28), (some (26, true)), .q (.ld none (.t 27)), []⟩,
    ⟨(some 29), (some (26, true)), .q (.bin .leq (.t 28) (.v (.int .i64 700))), []⟩,
    ⟨(some 30), none, .q (.pick (.t 26) (.t 29) (.v (.bool false))), []⟩,
    ⟨(some 31), none, .q (.mv (.t 30)), []⟩,
    ⟨(some 32), (some (31, true)), .q (.fa 0 (.t 1)), []⟩,
    ⟨(some 33), (some (31, true)), .q (.ld none (.t 32)), []⟩,
    ⟨(some 34), (some (31, true)), .q (.fa 2 (.t 1)), []⟩,
    ⟨(some 35), (some (31, true)), .q (.ld none (.t 34)), []⟩,
    ⟨(some 36), (some (31, true)), .q (.bin .sub (.v (.int .i64 3000)) (.t 35)), []⟩,
    ⟨(some 37), (some (31, true)), .q (.bin .leq (.t 33) (.t 36)), []⟩,
    ⟨(some 38), none, .q (.pick (.t 31) (.t 37) (.v (.bool false))), []⟩,
    ⟨(some 39), none, .q (.mv (.t 38)), []⟩,
    ⟨(some 40), (some (39, true)), .q (.fa 1 (.t 1)), []⟩,
    ⟨(some 41), (some (39, true)), .q (.ld none (.t 40)), []⟩,
    ⟨(some 42), (some (39, true)), .q (.fa 3 (.t 1)), []⟩,
    ⟨(some 43), (some (39, true)), .q (.ld none (.t 42)), []⟩,
    ⟨(some 44), (some (39, true)), .q (.bin .sub (.v (.int .i64 700)) (.t 43)), []⟩,
    ⟨(some 45), (some (39, true)), .q (.bin .leq (.t 41) (.t 44)), []⟩,
    ⟨(some 46), none, .q (.pick (.t 39) (.t 45) (.v (.bool false))), []⟩,
    ⟨(some 2), none, .q (.mv (.t 46)), []⟩]
def c18_2 : ACode := .seq c18_1 .ret
def c18_3 : ACode := .seq c18_0 c18_2
@[go_sem] theorem c18_0_wp (P : Program) (Q : APost) (a : AFr) (σ : ASt) : c18_0.wp P Q a σ = ACode.wp P (.ops [
    ⟨(some 1), none, .e (.box (.t 0)), []⟩,
    ⟨(some 2), none, .q (.mv (.v (.bool false))), []⟩]) Q a σ := id rfl
@[go_sem] theorem c18_1_wp (P : Program) (Q : APost) (a : AFr) (σ : ASt) : c18_1.wp P Q a σ = ACode.wp P (.ops [
    ⟨(some 3), none, .q (.fa 0 (.t 1)), []⟩,
    ⟨(some 4), none, .q (.ld none (.t 3)), []⟩,
    ⟨(some 5), none, .q (.bin .geq (.t 4) (.v (.int .i64 0))), []⟩,
    ⟨(some 6), none, .q (.mv (.t 5)), []⟩,
    ⟨(some 7), (some (6, true)), .q (.fa 1 (.t 1)), []⟩,
    ⟨(some 8), (some (6, true)), .q (.ld none (.t 7)), []⟩,
    ⟨(some 9), (some (6, true)), .q (.bin .geq (.t 8) (.v (.int .i64 0))), []⟩,
    ⟨(some 10), none, .q (.pick (.t 6) (.t 9) (.v (.bool false))), []⟩,
    ⟨(some 11), none, .q (.mv (.t 10)), []⟩,
    ⟨(some 12), (some (11, true)), .q (.fa 2 (.t 1)), []⟩,
    ⟨(some 13), (some (11, true)), .q (.ld none (.t 12)), []⟩,
    ⟨(some 14), (some (11, true)), .q (.bin .gtr (.t 13) (.v (.int .i64 0))), []⟩,
    ⟨(some 15), none, .q (.pick (.t 11) (.t 14) (.v (.bool false))), []⟩,
    ⟨(some 16), none, .q (.mv (.t 15)), []⟩,
    ⟨(some 17), (some (16, true)), .q (.fa 3 (.t 1)), []⟩,
    ⟨(some 18), (some (16, true)), .q (.ld none (.t 17)), []⟩,
    ⟨(some 19), (some (16, true)), .q (.bin .gtr (.t 18) (.v (.int .i64 0))), []⟩,
    ⟨(some 20), none, .q (.pick (.t 16) (.t 19) (.v (.bool false))), []⟩,
    ⟨(some 21), none, .q (.mv (.t 20)), []⟩,
    ⟨(some 22), (some (21, true)), .q (.fa 2 (.t 1)), []⟩,
    ⟨(some 23), (some (21, true)), .q (.ld none (.t 22)), []⟩,
    ⟨(some 24), (some (21, true)), .q (.bin .leq (.t 23) (.v (.int .i64 3000))), []⟩,
    ⟨(some 25), none, .q (.pick (.t 21) (.t 24) (.v (.bool false))), []⟩,
    ⟨(some 26), none, .q (.mv (.t 25)), []⟩,
    ⟨(some 27), (some (26, true)), .q (.fa 3 (.t 1)), []⟩,
    ⟨(some 28), (some (26, true)), .q (.ld none (.t 27)), []⟩,
    ⟨(some 29), (some (26, true)), .q (.bin .leq (.t 28) (.v (.int .i64 700))), []⟩,
    ⟨(some 30), none, .q (.pick (.t 26) (.t 29) (.v (.bool false))), []⟩,
    ⟨(some 31), none, .q (.mv (.t 30)), []⟩,
    ⟨(some 32), (some (31, true)), .q (.fa 0 (.t 1)), []⟩,
    ⟨(some 33), (some (31, true)), .q (.ld none (.t 32)), []⟩,
    ⟨(some 34), (some (31, true)), .q (.fa 2 (.t 1)), []⟩,
    ⟨(some 35), (some (31, true)), .q (.ld none (.t 34)), []⟩,
    ⟨(some 36), (some (31, true)), .q (.bin .sub (.v (.int .i64 3000)) (.t 35)), []⟩,
    ⟨(some 37), (some (31, true)), .q (.bin .leq (.t 33) (.t 36)), []⟩,
    ⟨(some 38), none, .q (.pick (.t 31) (.t 37) (.v (.bool false))), []⟩,
    ⟨(some 39), none, .q (.mv (.t 38)), []⟩,
    ⟨(some 40), (some (39, true)), .q (.fa 1 (.t 1)), []⟩,
    ⟨(some 41), (some (39, true)), .q (.ld none (.t 40)), []⟩,
    ⟨(some 42), (some (39, true)), .q (.fa 3 (.t 1)), []⟩,
    ⟨(some 43), (some (39, true)), .q (.ld none (.t 42)), []⟩,
    ⟨(some 44), (some (39, true)), .q (.bin .sub (.v (.int .i64 700)) (.t 43)), []⟩,
    ⟨(some 45), (some (39, true)), .q (.bin .leq (.t 41) (.t 44)), []⟩,
    ⟨(some 46), none, .q (.pick (.t 39) (.t 45) (.v (.bool false))), []⟩,
    ⟨(some 2), none, .q (.mv (.t 46)), []⟩]) Q a σ := id rfl
@[go_sem] theorem c18_2_wp (P : Program) (Q : APost) (a : AFr) (σ : ASt) : c18_2.wp P Q a σ = ACode.wp P (.seq c18_1 .ret) Q a σ := id rfl
@[go_sem] theorem c18_3_wp (P : Program) (Q : APost) (a : AFr) (σ : ASt) : c18_3.wp P Q a σ = ACode.wp P (.seq c18_0 c18_2) Q a σ := id rfl
def c18 : AFn := ⟨47, [.t 2], c18_3⟩
set_option maxRecDepth 100000 in
theorem c18_ok : compF Try.prog Try.f18 = some c18 := by kernel_rfl
theorem a18 {args : List AV} {σ : ASt} {R : AV → ASt → Prop} (hl : args.length ≤ 47) (h : c18_3.wp Try.prog (RetQ [.t 2] R) (init args) σ) : ACalls Try.prog 18 args σ R := acalls_of Try.func18 c18_ok hl h

/-! 19: (tabular/addr.Ref).Moved -/
def c19_0 : ACode := .ops [
    ⟨(some 3), none, .e (.box (.t 0)), []⟩,
    ⟨(some 6), none, .e (.alloc [(.int .i64 0), (.int .i64 0), (.bool false), (.bool false)]), []⟩,
    ⟨(some 7), none, .q (.mv (.v (.bool false))), []⟩]
def c19_1 : ACode := .ops [
    ⟨(some 8), none, .q (.mv (.t 1)), []⟩,
    ⟨(some 9), none, .q (.bin .leq (.t 8) (.v (.int .i64 (-3000)))), []⟩,
    ⟨(some 10), none, .q (.mv (.t 9)), []⟩,
    ⟨(some 11), (some (10, false)), .q (.mv (.t 1)), []⟩,
    ⟨(some 12), (some (10, false)), .q (.bin .geq (.t 11) (.v (.int .i64 3000))), []⟩,
    ⟨(some 13), none, .q (.pick (.t 10) (.v (.bool true)) (.t 12)), []⟩,
    ⟨(some 14), none, .q (.mv (.t 13)), []⟩,
    ⟨(some 15), (some (14, false)), .q (.mv (.t 2)), []⟩,
    ⟨(some 16), (some (14, false)), .q (.bin .leq (.t 15) (.v (.int .i64 (-700)))), []⟩,
    ⟨(some 17), none, .q (.pick (.t 14) (.v (.bool true)) (.t 16)), []⟩,
    ⟨(some 18), none, .q (.mv (.t 17)), []⟩,
    ⟨(some 19), (some (18, false)), .q (.mv (.t 2)), []⟩,
    ⟨(some 20), (some (18, false)), .q (.bin .geq (.t 19) (.v (.int .i64 700))), []⟩,
    ⟨(some 21), none, .q (.pick (.t 18) (.v (.bool true)) (.t 20)), []⟩]
def c19_2 : ACode := .ops [
    ⟨(some 22), none, .q (.fa 2 (.t 3)), []⟩,
    ⟨(some 23), none, .q (.ld none (.t 22)), []⟩,
    ⟨(some 24), none, .q (.un .not (.t 23)), []⟩,
    ⟨(some 25), none, .q (.mv (.t 24)), []⟩,
    ⟨(some 26), (some (25, true)), .q (.mv (.t 1)), []⟩,
    ⟨(some 27), (some (25, true)), .q (.bin .leq (.t 26) (.v (.int .i64 (-3000)))), []⟩,
    ⟨(some 28), (some (25, true)), .q (.mv (.t 27)), []⟩,
    ⟨(some 29), (some (28, false)), .q (.mv (.t 1)), []⟩,
    ⟨(some 30), (some (28, false)), .q (.bin .geq (.t 29) (.v (.int .i64 3000))), []⟩,
    ⟨(some 31), (some (25, true)), .q (.pick (.t 28) (.v (.bool true)) (.t 30)), []⟩,
    ⟨(some 32), none, .q (.pick (.t 25) (.t 31) (.v (.bool false))), []⟩,
    ⟨(some 33), none, .q (.mv (.t 32)), []⟩,
    ⟨(some 34), (some (33, false)), .q (.fa 3 (.t 3)), []⟩,
    ⟨(some 35), (some (33, false)), .q (.ld none (.t 34)), []⟩,
    ⟨(some 36), (some (33, false)), .q (.un .not (.t 35)), []⟩,
    ⟨(some 37), (some (33, false)), .q (.mv (.t 36)), []⟩,
    ⟨(some 38), (some (37, true)), .q (.mv (.t 2)), []⟩,
    ⟨(some 39), (some (37, true)), .q (.bin .leq (.t 38) (.v (.int .i64 (-700)))), []⟩,
    ⟨(some 40), (some (37, true)), .q (.mv (.t 39)), []⟩,
    ⟨(some 41), (some (40, false)), .q (.mv (.t 2)), []⟩,
    ⟨(some 42), (some (40, false)), .q (.bin .geq (.t 41) (.v (.int .i64 700))), []⟩,
    ⟨(some 43), (some (37, true)), .q (.pick (.t 40) (.v (.bool true)) (.t 42)), []⟩,
    ⟨(some 44), (some (33, false)), .q (.pick (.t 37) (.t 43) (.v (.bool false))), []⟩,
    ⟨(some 45), none, .q (.pick (.t 33) (.v (.bool true)) (.t 44)), []⟩]
def c19_3 : ACode := .ops [
    ⟨(some 46), none, .q (.build [(.int .i64 0), (.int .i64 0), (.bool false), (.bool false)] []), []⟩,
    ⟨none, none, .e (.store 4 (.t 6) (.t 46)), []⟩,
    ⟨(some 7), none, .q (.mv (.v (.bool false))), []⟩]
def c19_4 : ACode := .seq c19_3 .ret
def c19_5 : ACode := .cond (.t 45) c19_4 .skip
def c19_6 : ACode := .seq c19_2 c19_5
def c19_7 : ACode := .cond (.t 21) c19_6 .skip
def c19_8 : ACode := .seq c19_1 c19_7
def c19_9 : ACode := .ops [
    ⟨(some 47), none, .q (.fa 2 (.t 3)), []⟩,
    ⟨(some 48), none, .q (.ld none (.t 47)), []⟩,
    ⟨(some 49), none, .q (.un .not (.t 48)), []⟩]
def c19_10 : ACode := .ops [
    ⟨(some 50), none, .q (.fa 0 (.t 3)), []⟩,
    ⟨(some 51), none, .q (.ld none (.t 50)), []⟩,
    ⟨(some 52), none, .q (.mv (.t 1)), []⟩,
    ⟨(some 53), none, .q (.bin .add (.t 51) (.t 52)), []⟩,
    ⟨(some 54), none, .q (.fa 0 (.t 3)), []⟩,
    ⟨none, none, .e (.store 1 (.t 54) (.t 53)), []⟩]
def c19_11 : ACode := .cond (.t 49) c19_10 .skip
def c19_12 : ACode := .seq c19_9 c19_11
def c19_13 : ACode := .ops [
    ⟨(some 55), none, .q (.fa 3 (.t 3)), []⟩,
    ⟨(some 56), none, .q (.ld none (.t 55)), []⟩,
    ⟨(some 57), none, .q (.un .not (.t 56)), []⟩]
def c19_14 : ACode := .ops [
    ⟨(some 58), none, .q (.fa 1 (.t 3)), []⟩,
    ⟨(some 59), none, .q (.ld none (.t 58)), []⟩,
    ⟨(some 60), none, .q (.mv (.t 2)), []⟩,
    ⟨(some 61), none, .q (.bin .add (.t 59) (.t 60)), []⟩,
    ⟨(some 62), none, .q (.fa 1 (.t 3)), []⟩,
    ⟨none, none, .e (.store 1 (.t 62) (.t 61)), []⟩]
def c19_15 : ACode := .cond (.t 57) c19_14 .skip
def c19_16 : ACode := .seq c19_13 c19_15
def c19_17 : ACode := .ops [
    ⟨(some 63), none, .q (.ld (some 4) (.t 3)), []⟩,
    ⟨(some 64), none, .e (.call 14 [(.t 63)]), []⟩,
    ⟨(some 65), none, .q (.un .not (.t 64)), []⟩]
def c19_18 : ACode := .ops [
    ⟨(some 66), none, .q (.build [(.int .i64 0), (.int .i64 0), (.bool false), (.bool false)] []), []⟩,
    ⟨none, none, .e (.store 4 (.t 6) (.t 66)), []⟩,
    ⟨(some 7), none, .q (.mv (.v (.bool false))), []⟩]
def c19_19 : ACode := .seq c19_18 .ret
def c19_20 : ACode := .cond (.t 65) c19_19 .skip
def c19_21 : ACode := .seq c19_17 c19_20
def c19_22 : ACode := .ops [
    ⟨(some 67), none, .q (.ld (some 4) (.t 3)), []⟩,
    ⟨none, none, .e (.store 4 (.t 6) (.t 67)), []⟩,
    ⟨(some 7), none, .q (.mv (.v (.bool true))), []⟩]
def c19_23 : ACode := .seq c19_22 .ret
def c19_24 : ACode := .seq c19_21 c19_23
def c19_25 : ACode := .seq c19_16 c19_24
def c19_26 : ACode := .seq c19_12 c19_25
def c19_27 : ACode := .seq c19_8 c19_26
def c19_28 : ACode := .seq c19_0 c19_27
@[go_sem] theorem c19_0_wp (P : Program) (Q : APost) (a : AFr) (σ : ASt) : c19_0.wp P Q a σ = ACode.wp P (.ops [
    ⟨(some 3), none, .e (.box (.t 0)), []⟩,
    ⟨(some 6), none, .e (.alloc [(.int .i64 0), (.int .i64 0), (.bool false), (.bool false)]), []⟩,
    ⟨(some 7), none, .q (.mv (.v (.bool false))), []⟩]) Q a σ := id rfl
@[go_sem] theorem c19_1_wp (P : Program) (Q : APost) (a : AFr) (σ : ASt) : c19_1.wp P Q a σ = ACode.wp P (.ops [
    ⟨(some 8), none, .q (.mv (.t 1)), []⟩,
    ⟨(some 9), none, .q (.bin .leq (.t 8) (.v (.int .i64 (-3000)))), []⟩,
    ⟨(some 10), none, .q (.mv (.t 9)), []⟩,
    ⟨(some 11), (some (10, false)), .q (.mv (.t 1)), []⟩,
    ⟨(some 12), (some (10, false)), .q (.bin .geq (.t 11) (.v (.int .i64 3000))), []⟩,
    ⟨(some 13), none, .q (.pick (.t 10) (.v (.bool true)) (.t 12)), []⟩,
    ⟨(some 14), none, .q (.mv (.t 13)), []⟩,
    ⟨(some 15), (some (14, false)), .q (.mv (.t 2)), []⟩,
    ⟨(some 16), (some (14, false)), .q (.bin .leq (.t 15) (.v (.int .i64 (-700)))), []⟩,
    ⟨(some 17), none, .q (.pick (.t 14) (.v (.bool true)) (.t 16)), []⟩,
    ⟨(some 18), none, .q (.mv (.t 17)), []⟩,
    ⟨(some 19), (some (18, false)), .q (.mv (.t 2)), []⟩,
    ⟨(some 20), (some (18, false)), .q (.bin .geq (.t 19) (.v (.int .i64 700))), []⟩,
    ⟨(some 21), none, .q (.pick (.t 18) (.v (.bool true)) (.t 20)), []⟩]) Q a σ := id rfl
@[go_sem] theorem c19_2_wp (P : Program) (Q : APost) (a : AFr) (σ : ASt) : c19_2.wp P Q a σ = ACode.wp P (.ops [
    ⟨(some 22), none, .q (.fa 2 (.t 3)), []⟩,
    ⟨(some 23), none, .q (.ld none (.t 22)), []⟩,
    ⟨(some 24), none, .q (.un .not (.t 23)), []⟩,
    ⟨(some 25), none, .q (.mv (.t 24)), []⟩,
    ⟨(some 26), (some (25, true)), .q (.mv (.t 1)), []⟩,
    ⟨(some 27), (some (25, true)), .q (.bin .leq (.t 26) (.v (.int .i64 (-3000)))), []⟩,
    ⟨(some 28), (some (25, true)), .q (.mv (.t 27)), []⟩,
    ⟨(some 29), (some (28, false)), .q (.mv (.t 1)), []⟩,
    ⟨(some 30), (some (28, false)), .q (.bin .geq (.t 29) (.v (.int .i64 3000))), []⟩,
    ⟨(some 31), (some (25, true)), .q (.pick (.t 28) (.v (.bool true)) (.t 30)), []⟩,
    ⟨(some 32), none, .q (.pick (.t 25) (.t 31) (.v (.bool false))), []⟩,
    ⟨(some 33), none, .q (.mv (.t 32)), []⟩,
    ⟨(some 34), (some (33, false)), .q (.fa 3 (.t 3)), []⟩,
    ⟨(some 35), (some (33, false)), .q (.ld none (.t 34)), []⟩,
    ⟨(some 36), (some (33, false)), .q (.un .not (.t 35)), []⟩,
    ⟨(some 37), (some (33, false)), .q (.mv (.t 36)), []⟩,
    ⟨(some 38), (some (37, true)), .q (.mv (.t 2)), []⟩,
    ⟨(some 39), (some (37, true)), .q (.bin .leq (.t 38) (.v (.int .i64 (-700)))), []⟩,
    ⟨(some 40), (some (37, true)), .q (.mv (.t 39)), []⟩,
    ⟨(some 41), (some (40, false)), .q (.mv (.t 2)), []⟩,
    ⟨(some 42), (some (40, false)), .q (.bin .geq (.t 41) (.v (.int .i64 700))), []⟩,
    ⟨(some 43), (some (37, true)), .q (.pick (.t 40) (.v (.bool true)) (.t 42)), []⟩,
    ⟨(some 44), (some (33, false)), .q (.pick (.t 37) (.t 43) (.v (.bool false))), []⟩,
    ⟨(some 45), none, .q (.pick (.t 33) (.v (.bool true)) (.t 44)), []⟩]) Q a σ := id rfl
@[go_sem] theorem c19_3_wp (P : Program) (Q : APost) (a : AFr) (σ : ASt) : c19_3.wp P Q a σ = ACode.wp P (.ops [
    ⟨(some 46), none, .q (.build [(.int .i64 0), (.int .i64 0), (.bool false), (.bool false)] []), []⟩,
    ⟨none, none, .e (.store 4 (.t 6) (.t 46)), []⟩,
    ⟨(some 7), none, .q (.mv (.v (.bool false))), []⟩]) Q a σ := id rfl
@[go_sem] theorem c19_4_wp (P : Program) (Q : APost) (a : AFr) (σ : ASt) : c19_4.wp P Q a σ = ACode.wp P (.seq c19_3 .ret) Q a σ := id rfl
@[go_sem] theorem c19_5_wp (P : Program) (Q : APost) (a : AFr) (σ : ASt) : c19_5.wp P Q a σ = ACode.wp P (.cond (.t 45) c19_4 .skip) Q a σ := id rfl
@[go_sem] theorem c19_6_wp (P : Program) (Q : APost) (a : AFr) (σ : ASt) : c19_6.wp P Q a σ = ACode.wp P (.seq c19_2 c19_5) Q a σ := id rfl
@[go_sem] theorem c19_7_wp (P : Program) (Q : APost) (a : AFr) (σ : ASt) : c19_7.wp P Q a σ = ACode.wp P (.cond (.t 21) c19_6 .skip) Q a σ := id rfl
@[go_sem] theorem c19_8_wp (P : Program) (Q : APost) (a : AFr) (σ : ASt) : c19_8.wp P Q a σ = ACode.wp P (.seq c19_1 c19_7) Q a σ := id rfl
@[go_sem] theorem c19_9_wp (P : Program) (Q : APost) (a : AFr) (σ : ASt) : c19_9.wp P Q a σ = ACode.wp P (.ops [
    ⟨(some 47), none, .q (.fa 2 (.t 3)), []⟩,
    ⟨(some 48), none, .q (.ld none (.t 47)), []⟩,
    ⟨(some 49), none, .q (.un .not (.t 48)), []⟩]) Q a σ := id rfl
@[go_sem] theorem c19_10_wp (P : Program) (Q : APost) (a : AFr) (σ : ASt) : c19_10.wp P Q a σ = ACode.wp P (.ops [
    ⟨(some 50), none, .q (.fa 0 (.t 3)), []⟩,
    ⟨(some 51), none, .q (.ld none (.t 50)), []⟩,
    ⟨(some 52), none, .q (.mv (.t 1)), []⟩,
    ⟨(some 53), none, .q (.bin .add (.t 51) (.t 52)), []⟩,
    ⟨(some 54), none, .q (.fa 0 (.t 3)), []⟩,
    ⟨none, none, .e (.store 1 (.t 54) (.t 53)), []⟩]) Q a σ := id rfl
@[go_sem] theorem c19_11_wp (P : Program) (Q : APost) (a : AFr) (σ : ASt) : c19_11.wp P Q a σ = ACode.wp P (.cond (.t 49) c19_10 .skip) Q a σ := id rfl
@[go_sem] theorem c19_12_wp (P : Program) (Q : APost) (a : AFr) (σ : ASt) : c19_12.wp P Q a σ = ACode.wp P (.seq c19_9 c19_11) Q a σ := id rfl
@[go_sem] theorem c19_13_wp (P : Program) (Q : APost) (a : AFr) (σ : ASt) : c19_13.wp P Q a σ = ACode.wp P (.ops [
    ⟨(some 55), none, .q (.fa 3 (.t 3)), []⟩,
    ⟨(some 56), none, .q (.ld none (.t 55)), []⟩,
    ⟨(some 57), none, .q (.un .not (.t 56)), []⟩]) Q a σ := id rfl
@[go_sem] theorem c19_14_wp (P : Program) (Q : APost) (a : AFr) (σ : ASt) : c19_14.wp P Q a σ = ACode.wp P (.ops [
    ⟨(some 58), none, .q (.fa 1 (.t 3)), []⟩,
    ⟨(some 59), none, .q (.ld none (.t 58)), []⟩,
    ⟨(some 60), none, .q (.mv (.t 2)), []⟩,
    ⟨(some 61), none, .q (.bin .add (.t 59) (.t 60)), []⟩,
    ⟨(some 62), none, .q (.fa 1 (.t 3)), []⟩,
    ⟨none, none, .e (.store 1 (.t 62) (.t 61)), []⟩]) Q a σ := id rfl
@[go_sem] theorem c19_15_wp (P : Program) (Q : APost) (a : AFr) (σ : ASt) : c19_15.wp P Q a σ = ACode.wp P (.cond (.t 57) c19_14 .skip) Q a σ := id rfl
@[go_sem] theorem c19_16_wp (P : Program) (Q : APost) (a : AFr) (σ : ASt) : c19_16.wp P Q a σ = ACode.wp P (.seq c19_13 c19_15) Q a σ := id rfl
@[go_sem] theorem c19_17_wp (P : Program) (Q : APost) (a : AFr) (σ : ASt) : c19_17.wp P Q a σ = ACode.wp P (.ops [
    ⟨(some 63), none, .q (.ld (some 4) (.t 3)), []⟩,
    ⟨(some 64), none, .e (.call 14 [(.t 63)]), []⟩,
    ⟨(some 65), none, .q (.un .not (.t 64)), []⟩]) Q a σ := id rfl
@[go_sem] theorem c19_18_wp (P : Program) (Q : APost) (a : AFr) (σ : ASt) : c19_18.wp P Q a σ = ACode.wp P (.ops [
    ⟨(some 66), none, .q (.build [(.int .i64 0), (.int .i64 0), (.bool false), (.bool false)] []), []⟩,
    ⟨none, none, .e (.store 4 (.t 6) (.t 66)), []⟩,
    ⟨(some 7), none, .q (.mv (.v (.bool false))), []⟩]) Q a σ := id rfl
@[go_sem] theorem c19_19_wp (P : Program) (Q : APost) (a : AFr) (σ : ASt) : c19_19.wp P Q a σ = ACode.wp P (.seq c19_18 .ret) Q a σ := id rfl
@[go_sem] theorem c19_20_wp (P : Program) (Q : APost) (a : AFr) (σ : ASt) : c19_20.wp P Q a σ = ACode.wp P (.cond (.t 65) c19_19 .skip) Q a σ := id rfl
@[go_sem] theorem c19_21_wp (P : Program) (Q : APost) (a : AFr) (σ : ASt) : c19_21.wp P Q a σ = ACode.wp P (.seq c19_17 c19_20) Q a σ := id rfl
@[go_sem] theorem c19_22_wp (P : Program) (Q : APost) (a : AFr) (σ : ASt) : c19_22.wp P Q a σ = ACode.wp P (.ops [
    ⟨(some 67), none, .q (.ld (some 4) (.t 3)), []⟩,
    ⟨none, none, .e (.store 4 (.t 6) (.t 67)), []⟩,
    ⟨(some 7), none, .q (.mv (.v (.bool true))), []⟩]) Q a σ := id rfl
@[go_sem] theorem c19_23_wp (P : Program) (Q : APost) (a : AFr) (σ : ASt) : c19_23.wp P Q a σ = ACode.wp P (.seq c19_22 .ret) Q a σ := id rfl
@[go_sem] theorem c19_24_wp (P : Program) (Q : APost) (a : AFr) (σ : ASt) : c19_24.wp P Q a σ = ACode.wp P (.seq c19_21 c19_23) Q a σ := id rfl
@[go_sem] theorem c19_25_wp (P : Program) (Q : APost) (a : AFr) (σ : ASt) : c19_25.wp P Q a σ = ACode.wp P (.seq c19_16 c19_24) Q a σ := id rfl
@[go_sem] theorem c19_26_wp (P : Program) (Q : APost) (a : AFr) (σ : ASt) : c19_26.wp P Q a σ = ACode.wp P (.seq c19_12 c19_25) Q a σ := id rfl
@[go_sem] theorem c19_27_wp (P : Program) (Q : APost) (a : AFr) (σ : ASt) : c19_27.wp P Q a σ = ACode.wp P (.seq c19_8 c19_26) Q a σ := id rfl
@[go_sem] theorem c19_28_wp (P : Program) (Q : APost) (a : AFr) (σ : ASt) : c19_28.wp P Q a σ = ACode.wp P (.seq c19_0 c19_27) Q a σ := id rfl
def c19 : AFn := ⟨68, [.c 6 (some 4), .t 7], c19_28⟩
set_option maxRecDepth 100000 in
theorem c19_ok : compF Try.prog Try.f19 = some c19 := by kernel_rfl
theorem a19 {args : List AV} {σ : ASt} {R : AV → ASt → Prop} (hl : args.length ≤ 68) (h : c19_28.wp Try.prog (RetQ [.c 6 (some 4), .t 7] R) (init args) σ) : ACalls Try.prog 19 args σ R := acalls_of Try.func19 c19_ok hl h

/-! 25: tabular/addr.letter -/
def c25_0 : ACode := .ops [
    ⟨(some 2), none, .q (.mv (.v (.int .i64 0))), []⟩]
def c25_1 : ACode := .ops [
    ⟨(some 4), none, .q (.mv (.t 0)), []⟩,
    ⟨(some 5), none, .q (.bin .geq (.t 4) (.v (.int .u8 65))), []⟩,
    ⟨(some 6), none, .q (.mv (.t 5)), []⟩,
    ⟨(some 7), (some (6, true)), .q (.mv (.t 0)), []⟩,
    ⟨(some 8), (some (6, true)), .q (.bin .leq (.t 7) (.v (.int .u8 90))), []⟩,
    ⟨(some 9), none, .q (.pick (.t 6) (.t 8) (.v (.bool false))), []⟩,
    ⟨(some 3), none, .q (.mv (.t 9)), []⟩]
def c25_2 : ACode := .ops [
    ⟨(some 10), none, .q (.mv (.t 0)), []⟩,
    ⟨(some 11), none, .q (.bin .sub (.t 10) (.v (.int .u8 65))), []⟩,
    ⟨(some 12), none, .q (.conv .i64 (.t 11)), []⟩,
    ⟨(some 13), none, .q (.bin .add (.t 12) (.v (.int .i64 1))), []⟩,
    ⟨(some 2), none, .q (.mv (.t 13)), []⟩]
def c25_3 : ACode := .seq c25_2 .ret
def c25_4 : ACode := .ops [
    ⟨(some 15), none, .q (.mv (.t 0)), []⟩,
    ⟨(some 16), none, .q (.bin .geq (.t 15) (.v (.int .u8 97))), []⟩,
    ⟨(some 17), none, .q (.mv (.t 16)), []⟩,
    ⟨(some 18), (some (17, true)), .q (.mv (.t 0)), []⟩,
    ⟨(some 19), (some (17, true)), .q (.bin .leq (.t 18) (.v (.int .u8 122))), []⟩,
    ⟨(some 20), none, .q (.pick (.t 17) (.t 19) (.v (.bool false))), []⟩,
    ⟨(some 14), none, .q (.mv (.t 20)), []⟩]
def c25_5 : ACode := .ops [
    ⟨(some 21), none, .q (.mv (.t 0)), []⟩,
    ⟨(some 22), none, .q (.bin .sub (.t 21) (.v (.int .u8 97))), []⟩,
    ⟨(some 23), none, .q (.conv .i64 (.t 22)), []⟩,
    ⟨(some 24), none, .q (.bin .add (.t 23) (.v (.int .i64 1))), []⟩,
    ⟨(some 2), none, .q (.mv (.t 24)), []⟩]
def c25_6 : ACode := .seq c25_5 .ret
def c25_7 : ACode := .cond (.t 14) c25_6 .skip
def c25_8 : ACode := .seq c25_4 c25_7
def c25_9 : ACode := .cond (.t 3) c25_3 c25_8
def c25_10 : ACode := .seq c25_1 c25_9
def c25_11 : ACode := .block 0 c25_10
def c25_12 : ACode := .ops [
    ⟨(some 2), none, .q (.mv (.v (.int .i64 0))), []⟩]
def c25_13 : ACode := .seq c25_12 .ret
def c25_14 : ACode := .seq c25_11 c25_13
def c25_15 : ACode := .seq c25_0 c25_14
@[go_sem] theorem c25_0_wp (P : Program) (Q : APost) (a : AFr) (σ : ASt) : c25_0.wp P Q a σ = ACode.wp P (.ops [
    ⟨(some 2), none, .q (.mv (.v (.int .i64 0))), []⟩]) Q a σ := id rfl
@[go_sem] theorem c25_1_wp (P : Program) (Q : APost) (a : AFr) (σ : ASt) : c25_1.wp P Q a σ = ACode.wp P (.ops [
    ⟨(some 4), none, .q (.mv (.t 0)), []⟩,
    ⟨(some 5), none, .q (.bin .geq (.t 4) (.v (.int .u8 65))), []⟩,
    ⟨(some 6), none, .q (.mv (.t 5)), []⟩,
    ⟨(some 7), (some (6, true)), .q (.mv (.t 0)), []⟩,
    ⟨(some 8), (some (6, true)), .q (.bin .leq (.t 7) (.v (.int .u8 90))), []⟩,
    ⟨(some 9), none, .q (.pick (.t 6) (.t 8) (.v (.bool false))), []⟩,
    ⟨(some 3), none, .q (.mv (.t 9)), []⟩]) Q a σ := id rfl
@[go_sem] theorem c25_2_wp (P : Program) (Q : APost) (a : AFr) (σ : ASt) : c25_2.wp P Q a σ = ACode.wp P (.ops [
    ⟨(some 10), none, .q (.mv (.t 0)), []⟩,
    ⟨(some 11), none, .q (.bin .sub (.t 10) (.v (.int .u8 65))), []⟩,
    ⟨(some 12), none, .q (.conv .i64 (.t 11)), []⟩,
    ⟨(some 13), none, .q (.bin .add (.t 12) (.v (.int .i64 1))), []⟩,
    ⟨(some 2), none, .q (.mv (.t 13)), []⟩]) Q a σ := id rfl
@[go_sem] theorem c25_3_wp (P : Program) (Q : APost) (a : AFr) (σ : ASt) : c25_3.wp P Q a σ = ACode.wp P (.seq c25_2 .ret) Q a σ := id rfl
@[go_sem] theorem c25_4_wp (P : Program) (Q : APost) (a : AFr) (σ : ASt) : c25_4.wp P Q a σ = ACode.wp P (.ops [
    ⟨(some 15), none, .q (.mv (.t 0)), []⟩,
    ⟨(some 16), none, .q (.bin .geq (.t 15) (.v (.int .u8 97))), []⟩,
    ⟨(some 17), none, .q (.mv (.t 16)), []⟩,
    ⟨(some 18), (some (17, true)), .q (.mv (.t 0)), []⟩,
    ⟨(some 19), (some (17, true)), .q (.bin .leq (.t 18) (.v (.int .u8 122))), []⟩,
    ⟨(some 20), none, .q (.pick (.t 17) (.t 19) (.v (.bool false))), []⟩,
    ⟨(some 14), none, .q (.mv (.t 20)), []⟩]) Q a σ := id rfl
@[go_sem] theorem c25_5_wp (P : Program) (Q : APost) (a : AFr) (σ : ASt) : c25_5.wp P Q a σ = ACode.wp P (.ops [
    ⟨(some 21), none, .q (.mv (.t 0)), []⟩,
    ⟨(some 22), none, .q (.bin .sub (.t 21) (.v (.int .u8 97))), []⟩,
    ⟨(some 23), none, .q (.conv .i64 (.t 22)), []⟩,
    ⟨(some 24), none, .q (.bin .add (.t 23) (.v (.int .i64 1))), []⟩,
    ⟨(some 2), none, .q (.mv (.t 24)), []⟩]) Q a σ := id rfl
@[go_sem] theorem c25_6_wp (P : Program) (Q : APost) (a : AFr) (σ : ASt) : c25_6.wp P Q a σ = ACode.wp P (.seq c25_5 .ret) Q a σ := id rfl
@[go_sem] theorem c25_7_wp (P : Program) (Q : APost) (a : AFr) (σ : ASt) : c25_7.wp P Q a σ = ACode.wp P (.cond (.t 14) c25_6 .skip) Q a σ := id rfl
@[go_sem] theorem c25_8_wp (P : Program) (Q : APost) (a : AFr) (σ : ASt) : c25_8.wp P Q a σ = ACode.wp P (.seq c25_4 c25_7) Q a σ := id rfl
@[go_sem] theorem c25_9_wp (P : Program) (Q : APost) (a : AFr) (σ : ASt) : c25_9.wp P Q a σ = ACode.wp P (.cond (.t 3) c25_3 c25_8) Q a σ := id rfl
@[go_sem] theorem c25_10_wp (P : Program) (Q : APost) (a : AFr) (σ : ASt) : c25_10.wp P Q a σ = ACode.wp P (.seq c25_1 c25_9) Q a σ := id rfl
@[go_sem] theorem c25_11_wp (P : Program) (Q : APost) (a : AFr) (σ : ASt) : c25_11.wp P Q a σ = ACode.wp P (.block 0 c25_10) Q a σ := id rfl
@[go_sem] theorem c25_12_wp (P : Program) (Q : APost) (a : AFr) (σ : ASt) : c25_12.wp P Q a σ = ACode.wp P (.ops [
    ⟨(some 2), none, .q (.mv (.v (.int .i64 0))), []⟩]) Q a σ := id rfl
@[go_sem] theorem c25_13_wp (P : Program) (Q : APost) (a : AFr) (σ : ASt) : c25_13.wp P Q a σ = ACode.wp P (.seq c25_12 .ret) Q a σ := id rfl
@[go_sem] theorem c25_14_wp (P : Program) (Q : APost) (a : AFr) (σ : ASt) : c25_14.wp P Q a σ = ACode.wp P (.seq c25_11 c25_13) Q a σ := id rfl
@[go_sem] theorem c25_15_wp (P : Program) (Q : APost) (a : AFr) (σ : ASt) : c25_15.wp P Q a σ = ACode.wp P (.seq c25_0 c25_14) Q a σ := id rfl
def c25 : AFn := ⟨25, [.t 2], c25_15⟩
set_option maxRecDepth 100000 in
theorem c25_ok : compF Try.prog Try.f25 = some c25 := by kernel_rfl
theorem a25 {args : List AV} {σ : ASt} {R : AV → ASt → Prop} (hl : args.length ≤ 25) (h : c25_15.wp Try.prog (RetQ [.t 2] R) (init args) σ) : ACalls Try.prog 25 args σ R := acalls_of Try.func25 c25_ok hl h

/-! 28: tabular/addr.Read -/
def c28_0 : ACode := .ops [
    ⟨(some 2), none, .e (.alloc [(.int .i64 0), (.int .i64 0), (.bool false), (.bool false)]), []⟩,
    ⟨(some 3), none, .q (.mv (.v (.int .i64 0))), []⟩]
def c28_1 : ACode := .ops [
    ⟨(some 4), none, .e (.alloc [(.int .i64 0), (.int .i64 0), (.bool false), (.bool false)]), []⟩]
def c28_2 : ACode := .ops [
    ⟨(some 5), none, .q (.mv (.v (.int .i64 0))), []⟩]
def c28_3 : ACode := .ops [
    ⟨(some 11), none, .q (.mv (.t 5)), []⟩,
    ⟨(some 12), none, .q (.mv (.t 0)), []⟩,
    ⟨(some 13), none, .q (.lenS (.t 12)), []⟩,
    ⟨(some 14), none, .q (.bin .lss (.t 11) (.t 13)), []⟩,
    ⟨(some 15), none, .q (.mv (.t 14)), []⟩,
    ⟨(some 16), (some (15, true)), .q (.mv (.t 0)), []⟩,
    ⟨(some 17), (some (15, true)), .q (.mv (.t 5)), []⟩,
    ⟨(some 18), (some (15, true)), .q (.idx (.t 16) (.t 17)), []⟩,
    ⟨(some 19), (some (15, true)), .q (.bin .eql (.t 18) (.v (.int .u8 36))), []⟩,
    ⟨(some 20), none, .q (.pick (.t 15) (.t 19) (.v (.bool false))), []⟩]
def c28_4 : ACode := .ops [
    ⟨(some 21), none, .q (.fa 3 (.t 4)), []⟩,
    ⟨none, none, .e (.store 1 (.t 21) (.v (.bool true))), []⟩]
def c28_5 : ACode := .ops [
    ⟨(some 22), none, .q (.mv (.t 5)), []⟩,
    ⟨(some 23), none, .q (.bin .add (.t 22) (.v (.int .i64 1))), []⟩,
    ⟨(some 5), none, .q (.mv (.t 23)), []⟩]
def c28_6 : ACode := .seq c28_4 c28_5
def c28_7 : ACode := .cond (.t 20) c28_6 .skip
def c28_8 : ACode := .seq c28_3 c28_7
def c28_9 : ACode := .ops [
    ⟨(some 24), none, .q (.mv (.t 5)), []⟩,
    ⟨(some 6), none, .q (.mv (.t 24)), []⟩]
def c28_10 : ACode := .ops [
    ⟨(some 25), none, .q (.mv (.t 5)), []⟩,
    ⟨(some 26), none, .q (.mv (.t 0)), []⟩,
    ⟨(some 27), none, .q (.lenS (.t 26)), []⟩,
    ⟨(some 28), none, .q (.bin .lss (.t 25) (.t 27)), []⟩,
    ⟨(some 29), none, .q (.mv (.t 28)), []⟩,
    ⟨(some 30), (some (29, true)), .q (.mv (.t 0)), []⟩,
    ⟨(some 31), (some (29, true)), .q (.mv (.t 5)), []⟩,
    ⟨(some 32), (some (29, true)), .q (.idx (.t 30) (.t 31)), []⟩,
    ⟨(some 33), (some (29, true)), .e (.call 25 [(.t 32)]), []⟩,
    ⟨(some 34), (some (29, true)), .q (.bin .gtr (.t 33) (.v (.int .i64 0))), []⟩,
    ⟨(some 35), none, .q (.pick (.t 29) (.t 34) (.v (.bool false))), []⟩]
def c28_11 : ACode := .cond (.t 35) .skip (.exit 0)
def c28_12 : ACode := .seq c28_10 c28_11
def c28_13 : ACode := .ops [
    ⟨(some 36), none, .q (.mv (.t 5)), []⟩,
    ⟨(some 37), none, .q (.bin .add (.t 36) (.v (.int .i64 1))), []⟩,
    ⟨(some 5), none, .q (.mv (.t 37)), []⟩]
def c28_14 : ACode := .block 1 c28_13
def c28_15 : ACode := .seq c28_12 c28_14
def c28_16 : ACode := .loop c28_15
def c28_17 : ACode := .block 0 c28_16
def c28_18 : ACode := .ops [
    ⟨(some 39), none, .q (.mv (.t 0)), []⟩,
    ⟨(some 40), none, .q (.mv (.t 6)), []⟩,
    ⟨(some 41), none, .q (.mv (.t 5)), []⟩,
    ⟨(some 42), none, .q (.sls (true, 0) (.t 39) (.t 40) (.t 41)), []⟩,
    ⟨(some 43), none, .e (.call 9 [(.t 42)]), []⟩,
    ⟨(some 38), none, .q (.mv (.t 43)), []⟩,
    ⟨(some 44), none, .q (.ext 0 (.t 38)), []⟩,
    ⟨(some 45), none, .q (.ext 1 (.t 38)), []⟩,
    ⟨(some 7), none, .q (.mv (.t 44)), []⟩,
    ⟨(some 8), none, .q (.mv (.t 45)), []⟩]
def c28_19 : ACode := .ops [
    ⟨(some 46), none, .q (.mv (.t 8)), []⟩,
    ⟨(some 47), none, .q (.un .not (.t 46)), []⟩]
def c28_20 : ACode := .ops [
    ⟨(some 48), none, .q (.build [(.int .i64 0), (.int .i64 0), (.bool false), (.bool false)] []), []⟩,
    ⟨none, none, .e (.store 4 (.t 2) (.t 48)), []⟩,
    ⟨(some 3), none, .q (.mv (.v (.int .i64 0))), []⟩]
def c28_21 : ACode := .seq c28_20 .ret
def c28_22 : ACode := .cond (.t 47) c28_21 .skip
def c28_23 : ACode := .seq c28_19 c28_22
def c28_24 : ACode := .ops [
    ⟨(some 49), none, .q (.mv (.t 5)), []⟩,
    ⟨(some 50), none, .q (.mv (.t 0)), []⟩,
    ⟨(some 51), none, .q (.lenS (.t 50)), []⟩,
    ⟨(some 52), none, .q (.bin .lss (.t 49) (.t 51)), []⟩,
    ⟨(some 53), none, .q (.mv (.t 52)), []⟩,
    ⟨(some 54), (some (53, true)), .q (.mv (.t 0)), []⟩,
    ⟨(some 55), (some (53, true)), .q (.mv (.t 5)), []⟩,
    ⟨(some 56), (some (53, true)), .q (.idx (.t 54) (.t 55)), []⟩,
    ⟨(some 57), (some (53, true)), .q (.bin .eql (.t 56) (.v (.int .u8 36))), []⟩,
    ⟨(some 58), none, .q (.pick (.t 53) (.t 57) (.v (.bool false))), []⟩]
def c28_25 : ACode := .ops [
    ⟨(some 59), none, .q (.fa 2 (.t 4)), []⟩,
    ⟨none, none, .e (.store 1 (.t 59) (.v (.bool true))), []⟩]
def c28_26 : ACode := .ops [
    ⟨(some 60), none, .q (.mv (.t 5)), []⟩,
    ⟨(some 61), none, .q (.bin .add (.t 60) (.v (.int .i64 1))), []⟩,
    ⟨(some 5), none, .q (.mv (.t 61)), []⟩]
def c28_27 : ACode := .seq c28_25 c28_26
def c28_28 : ACode := .cond (.t 58) c28_27 .skip
def c28_29 : ACode := .seq c28_24 c28_28
def c28_30 : ACode := .ops [
    ⟨(some 62), none, .q (.mv (.t 5)), []⟩,
    ⟨(some 9), none, .q (.mv (.v (.int .i64 0))), []⟩,
    ⟨(some 10), none, .q (.mv (.t 62)), []⟩]
def c28_31 : ACode := .ops [
    ⟨(some 63), none, .q (.mv (.t 5)), []⟩,
    ⟨(some 64), none, .q (.mv (.t 0)), []⟩,
    ⟨(some 65), none, .q (.lenS (.t 64)), []⟩,
    ⟨(some 66), none, .q (.bin .lss (.t 63) (.t 65)), []⟩,
    ⟨(some 67), none, .q (.mv (.t 66)), []⟩,
    ⟨(some 68), (some (67, true)), .q (.mv (.t 0)), []⟩,
    ⟨(some 69), (some (67, true)), .q (.mv (.t 5)), []⟩,
    ⟨(some 70), (some (67, true)), .q (.idx (.t 68) (.t 69)), []⟩,
    ⟨(some 71), (some (67, true)), .q (.bin .geq (.t 70) (.v (.int .u8 48))), []⟩,
    ⟨(some 72), none, .q (.pick (.t 67) (.t 71) (.v (.bool false))), []⟩,
    ⟨(some 73), none, .q (.mv (.t 72)), []⟩,
    ⟨(some 74), (some (73, true)), .q (.mv (.t 0)), []⟩,
    ⟨(some 75), (some (73, true)), .q (.mv (.t 5)), []⟩,
    ⟨(some 76), (some (73, true)), .q (.idx (.t 74) (.t 75)), []⟩,
    ⟨(some 77), (some (73, true)), .q (.bin .leq (.t 76) (.v (.int .u8 57))), []⟩,
    ⟨(some 78), none, .q (.pick (.t 73) (.t 77) (.v (.bool false))), []⟩]
def c28_32 : ACode := .cond (.t 78) .skip (.exit 2)
def c28_33 : ACode := .seq c28_31 c28_32
def c28_34 : ACode := .ops [
    ⟨(some 79), none, .q (.mv (.t 9)), []⟩,
    ⟨(some 80), none, .q (.bin .mul (.v (.int .i64 10)) (.t 79)), []⟩,
    ⟨(some 81), none, .q (.mv (.t 0)), []⟩,
    ⟨(some 82), none, .q (.mv (.t 5)), []⟩,
    ⟨(some 83), none, .q (.idx (.t 81) (.t 82)), []⟩,
    ⟨(some 84), none, .q (.bin .sub (.t 83) (.v (.int .u8 48))), []⟩,
    ⟨(some 85), none, .q (.conv .i64 (.t 84)), []⟩,
    ⟨(some 86), none, .q (.bin .add (.t 80) (.t 85)), []⟩,
    ⟨(some 87), none, .q (.mnx false (.t 86) (.v (.int .i64 3001))), []⟩,
    ⟨(some 9), none, .q (.mv (.t 87)), []⟩]
def c28_35 : ACode := .ops [
    ⟨(some 88), none, .q (.mv (.t 5)), []⟩,
    ⟨(some 89), none, .q (.bin .add (.t 88) (.v (.int .i64 1))), []⟩,
    ⟨(some 5), none, .q (.mv (.t 89)), []⟩]
def c28_36 : ACode := .seq c28_34 c28_35
def c28_37 : ACode := .block 3 c28_36
def c28_38 : ACode := .seq c28_33 c28_37
def c28_39 : ACode := .loop c28_38
def c28_40 : ACode := .block 2 c28_39
def c28_41 : ACode := .ops [
    ⟨(some 90), none, .q (.mv (.t 9)), []⟩,
    ⟨(some 91), none, .q (.bin .lss (.t 90) (.v (.int .i64 1))), []⟩,
    ⟨(some 92), none, .q (.mv (.t 91)), []⟩,
    ⟨(some 93), (some (92, false)), .q (.mv (.t 9)), []⟩,
    ⟨(some 94), (some (92, false)), .q (.bin .gtr (.t 93) (.v (.int .i64 3000))), []⟩,
    ⟨(some 95), none, .q (.pick (.t 92) (.v (.bool true)) (.t 94)), []⟩,
    ⟨(some 96), none, .q (.mv (.t 95)), []⟩,
    ⟨(some 97), (some (96, false)), .q (.mv (.t 0)), []⟩,
    ⟨(some 98), (some (96, false)), .q (.mv (.t 10)), []⟩,
    ⟨(some 99), (some (96, false)), .q (.idx (.t 97) (.t 98)), []⟩,
    ⟨(some 100), (some (96, false)), .q (.bin .eql (.t 99) (.v (.int .u8 48))), []⟩,
    ⟨(some 101), none, .q (.pick (.t 96) (.v (.bool true)) (.t 100)), []⟩,
    ⟨(some 102), none, .q (.mv (.t 101)), []⟩,
    ⟨(some 103), (some (102, false)), .q (.mv (.t 0)), []⟩,
    ⟨(some 104), (some (102, false)), .q (.mv (.t 5)), []⟩,
    ⟨(some 105), (some (102, false)), .e (.call 31 [(.t 103), (.t 104)]), []⟩,
    ⟨(some 106), (some (102, false)), .e (.call 25 [(.t 105)]), []⟩,
    ⟨(some 107), (some (102, false)), .q (.bin .gtr (.t 106) (.v (.int .i64 0))), []⟩,
    ⟨(some 108), none, .q (.pick (.t 102) (.v (.bool true)) (.t 107)), []⟩,
    ⟨(some 109), none, .q (.mv (.t 108)), []⟩,
    ⟨(some 110), (some (109, false)), .q (.mv (.t 0)), []⟩,
    ⟨(some 111), (some (109, false)), .q (.mv (.t 5)), []⟩,
    ⟨(some 112), (some (109, false)), .e (.call 31 [(.t 110), (.t 111)]), []⟩,
    ⟨(some 113), (some (109, false)), .q (.bin .eql (.t 112) (.v (.int .u8 95))), []⟩,
    ⟨(some 114), none, .q (.pick (.t 109) (.v (.bool true)) (.t 113)), []⟩]
def c28_42 : ACode := .ops [
    ⟨(some 115), none, .q (.build [(.int .i64 0), (.int .i64 0), (.bool false), (.bool false)] []), []⟩,
    ⟨none, none, .e (.store 4 (.t 2) (.t 115)), []⟩,
    ⟨(some 3), none, .q (.mv (.v (.int .i64 0))), []⟩]
def c28_43 : ACode := .seq c28_42 .ret
def c28_44 : ACode := .cond (.t 114) c28_43 .skip
def c28_45 : ACode := .seq c28_41 c28_44
def c28_46 : ACode := .ops [
    ⟨(some 116), none, .q (.mv (.t 9)), []⟩,
    ⟨(some 117), none, .q (.bin .sub (.t 116) (.v (.int .i64 1))), []⟩,
    ⟨(some 118), none, .q (.mv (.t 7)), []⟩,
    ⟨(some 119), none, .q (.fa 0 (.t 4)), []⟩,
    ⟨none, none, .e (.store 1 (.t 119) (.t 117)), []⟩,
    ⟨(some 120), none, .q (.fa 1 (.t 4)), []⟩,
    ⟨none, none, .e (.store 1 (.t 120) (.t 118)), []⟩]
def c28_47 : ACode := .ops [
    ⟨(some 121), none, .q (.ld (some 4) (.t 4)), []⟩,
    ⟨(some 122), none, .q (.mv (.t 5)), []⟩,
    ⟨none, none, .e (.store 4 (.t 2) (.t 121)), []⟩,
    ⟨(some 3), none, .q (.mv (.t 122)), []⟩]
def c28_48 : ACode := .seq c28_47 .ret
def c28_49 : ACode := .seq c28_46 c28_48
def c28_50 : ACode := .seq c28_45 c28_49
def c28_51 : ACode := .seq c28_40 c28_50
def c28_52 : ACode := .seq c28_30 c28_51
def c28_53 : ACode := .seq c28_29 c28_52
def c28_54 : ACode := .seq c28_23 c28_53
def c28_55 : ACode := .seq c28_18 c28_54
def c28_56 : ACode := .seq c28_17 c28_55
def c28_57 : ACode := .seq c28_9 c28_56
def c28_58 : ACode := .seq c28_8 c28_57
def c28_59 : ACode := .seq c28_2 c28_58
def c28_60 : ACode := .seq c28_1 c28_59
def c28_61 : ACode := .seq c28_0 c28_60
@[go_sem] theorem c28_0_wp (P : Program) (Q : APost) (a : AFr) (σ : ASt) : c28_0.wp P Q a σ = ACode.wp P (.ops [
    ⟨(some 2), none, .e (.alloc [(.int .i64 0), (.int .i64 0), (.bool false), (.bool false)]), []⟩,
    ⟨(some 3), none, .q (.mv (.v (.int .i64 0))), []⟩]) Q a σ := id rfl
@[go_sem] theorem c28_1_wp (P : Program) (Q : APost) (a : AFr) (σ : ASt) : c28_1.wp P Q a σ = ACode.wp P (.ops [
    ⟨(some 4), none, .e (.alloc [(.int .i64 0), (.int .i64 0), (.bool false), (.bool false)]), []⟩]) Q a σ := id rfl
@[go_sem] theorem c28_2_wp (P : Program) (Q : APost) (a : AFr) (σ : ASt) : c28_2.wp P Q a σ = ACode.wp P (.ops [
    ⟨(some 5), none, .q (.mv (.v (.int .i64 0))), []⟩]) Q a σ := id rfl
@[go_sem] theorem c28_3_wp (P : Program) (Q : APost) (a : AFr) (σ : ASt) : c28_3.wp P Q a σ = ACode.wp P (.ops [
    ⟨(some 11), none, .q (.mv (.t 5)), []⟩,
    ⟨(some 12), none, .q (.mv (.t 0)), []⟩,
    ⟨(some 13), none, .q (.lenS (.t 12)), []⟩,
    ⟨(some 14), none, .q (.bin .lss (.t 11) (.t 13)), []⟩,
    ⟨(some 15), none, .q (.mv (.t 14)), []⟩,
    ⟨(some 16), (some (15, true)), .q (.mv (.t 0)), []⟩,
    ⟨(some 17), (some (15, true)), .q (.mv (.t 5)), []⟩,
    ⟨(some 18), (some (15, true)), .q (.idx (.t 16) (.t 17)), []⟩,
    ⟨(some 19), (some (15, true)), .q (.bin .eql (.t 18) (.v (.int .u8 36))), []⟩,
    ⟨(some 20), none, .q (.pick (.t 15) (.t 19) (.v (.bool false))), []⟩]) Q a σ := id rfl
@[go_sem] theorem c28_4_wp (P : Program) (Q : APost) (a : AFr) (σ : ASt) : c28_4.wp P Q a σ = ACode.wp P (.ops [
    ⟨(some 21), none, .q (.fa 3 (.t 4)), []⟩,
    ⟨none, none, .e (.store 1 (.t 21) (.v (.bool true))), []⟩]) Q a σ := id rfl
@[go_sem] theorem c28_5_wp (P : Program) (Q : APost) (a : AFr) (σ : ASt) : c28_5.wp P Q a σ = ACode.wp P (.ops [
    ⟨(some 22), none, .q (.mv (.t 5)), []⟩,
    ⟨(some 23), none, .q (.bin .add (.t 22) (.v (.int .i64 1))), []⟩,
    ⟨(some 5), none, .q (.mv (.t 23)), []⟩]) Q a σ := id rfl
@[go_sem] theorem c28_6_wp (P : Program) (Q : APost) (a : AFr) (σ : ASt) : c28_6.wp P Q a σ = ACode.wp P (.seq c28_4 c28_5) Q a σ := id rfl
@[go_sem] theorem c28_7_wp (P : Program) (Q : APost) (a : AFr) (σ : ASt) : c28_7.wp P Q a σ = ACode.wp P (.cond (.t 20) c28_6 .skip) Q a σ := id rfl
@[go_sem] theorem c28_8_wp (P : Program) (Q : APost) (a : AFr) (σ : ASt) : c28_8.wp P Q a σ = ACode.wp P (.seq c28_3 c28_7) Q a σ := id rfl
@[go_sem] theorem c28_9_wp (P : Program) (Q : APost) (a : AFr) (σ : ASt) : c28_9.wp P Q a σ = ACode.wp P (.ops [
    ⟨(some 24), none, .q (.mv (.t 5)), []⟩,
    ⟨(some 6), none, .q (.mv (.t 24)), []⟩]) Q a σ := id rfl
@[go_sem] theorem c28_10_wp (P : Program) (Q : APost) (a : AFr) (σ : ASt) : c28_10.wp P Q a σ = ACode.wp P (.ops [
    ⟨(some 25), none, .q (.mv (.t 5)), []⟩,
    ⟨(some 26), none, .q (.mv (.t 0)), []⟩,
    ⟨(some 27), none, .q (.lenS (.t 26)), []⟩,
    ⟨(some 28), none, .q (.bin .lss (.t 25) (.t 27)), []⟩,
    ⟨(some 29), none, .q (.mv (.t 28)), []⟩,
    ⟨(some 30), (some (29, true)), .q (.mv (.t 0)), []⟩,
    ⟨(some 31), (some (29, true)), .q (.mv (.t 5)), []⟩,
    ⟨(some 32), (some (29, true)), .q (.idx (.t 30) (.t 31)), []⟩,
    ⟨(some 33), (some (29, true)), .e (.call 25 [(.t 32)]), []⟩,
    ⟨(some 34), (some (29, true)), .q (.bin .gtr (.t 33) (.v (.int .i64 0))), []⟩,
    ⟨(some 35), none, .q (.pick (.t 29) (.t 34) (.v (.bool false))), []⟩]) Q a σ := id rfl
@[go_sem] theorem c28_11_wp (P : Program) (Q : APost) (a : AFr) (σ : ASt) : c28_11.wp P Q a σ = ACode.wp P (.cond (.t 35) .skip (.exit 0)) Q a σ := id rfl
@[go_sem] theorem c28_12_wp (P : Program) (Q : APost) (a : AFr) (σ : ASt) : c28_12.wp P Q a σ = ACode.wp P (.seq c28_10 c28_11) Q a σ := id rfl
@[go_sem] theorem c28_13_wp (P : Program) (Q : APost) (a : AFr) (σ : ASt) : c28_13.wp P Q a σ = ACode.wp P (.ops [
    ⟨(some 36), none, .q (.mv (.t 5)), []⟩,
    ⟨(some 37), none, .q (.bin .add (.t 36) (.v (.int .i64 1))), []⟩,
    ⟨(some 5), none, .q (.mv (.t 37)), []⟩]) Q a σ := id rfl
@[go_sem] theorem c28_14_wp (P : Program) (Q : APost) (a : AFr) (σ : ASt) : c28_14.wp P Q a σ = ACode.wp P (.block 1 c28_13) Q a σ := id rfl
@[go_sem] theorem c28_15_wp (P : Program) (Q : APost) (a : AFr) (σ : ASt) : c28_15.wp P Q a σ = ACode.wp P (.seq c28_12 c28_14) Q a σ := id rfl
@[go_sem] theorem c28_16_wp (P : Program) (Q : APost) (a : AFr) (σ : ASt) : c28_16.wp P Q a σ = ACode.wp P (.loop c28_15) Q a σ := id rfl
@[go_sem] theorem c28_17_wp (P : Program) (Q : APost) (a : AFr) (σ : ASt) : c28_17.wp P Q a σ = ACode.wp P (.block 0 c28_16) Q a σ := id rfl
@[go_sem] theorem c28_18_wp (P : Program) (Q : APost) (a : AFr) (σ : ASt) : c28_18.wp P Q a σ = ACode.wp P (.ops [
    ⟨(some 39), none, .q (.mv (.t 0)), []⟩,
    ⟨(some 40), none, .q (.mv (.t 6)), []⟩,
    ⟨(some 41), none, .q (.mv (.t 5)), []⟩,
    ⟨(some 42), none, .q (.sls (true, 0) (.t 39) (.t 40) (.t 41)), []⟩,
    ⟨(some 43), none, .e (.call 9 [(.t 42)]), []⟩,
    ⟨(some 38), none, .q (.mv (.t 43)), []⟩,
    ⟨(some 44), none, .q (.ext 0 (.t 38)), []⟩,
    ⟨(some 45), none, .q (.ext 1 (.t 38)), []⟩,
    ⟨(some 7), none, .q (.mv (.t 44)), []⟩,
    ⟨(some 8), none, .q (.mv (.t 45)), []⟩]) Q a σ := id rfl
@[go_sem] theorem c28_19_wp (P : Program) (Q : APost) (a : AFr) (σ : ASt) : c28_19.wp P Q a σ = ACode.wp P (.ops [
    ⟨(some 46), none, .q (.mv (.t 8)), []⟩,
    ⟨(some 47), none, .q (.un .not (.t 46)), []⟩]) Q a σ := id rfl
@[go_sem] theorem c28_20_wp (P : Program) (Q : APost) (a : AFr) (σ : ASt) : c28_20.wp P Q a σ = ACode.wp P (.ops [
    ⟨(some 48), none, .q (.build [(.int .i64 0), (.int .i64 0), (.bool false), (.bool false)] []), []⟩,
    ⟨none, none, .e (.store 4 (.t 2) (.t 48)), []⟩,
    ⟨(some 3), none, .q (.mv (.v (.int .i64 0))), []⟩]) Q a σ := id rfl
@[go_sem] theorem c28_21_wp (P : Program) (Q : APost) (a : AFr) (σ : ASt) : c28_21.wp P Q a σ = ACode.wp P (.seq c28_20 .ret) Q a σ := id rfl
@[go_sem] theorem c28_22_wp (P : Program) (Q : APost) (a : AFr) (σ : ASt) : c28_22.wp P Q a σ = ACode.wp P (.cond (.t 47) c28_21 .skip) Q a σ := id rfl
@[go_sem] theorem c28_23_wp (P : Program) (Q : APost) (a : AFr) (σ : ASt) : c28_23.wp P Q a σ = ACode.wp P (.seq c28_19 c28_22) Q a σ := id rfl
@[go_sem] theorem c28_24_wp (P : Program) (Q : APost) (a : AFr) (σ : ASt) : c28_24.wp P Q a σ = ACode.wp P (.ops [
    ⟨(some 49), none, .q (.mv (.t 5)), []⟩,
    ⟨(some 50), none, .q (.mv (.t 0)), []⟩,
    ⟨(some 51), none, .q (.lenS (.t 50)), []⟩,
    ⟨(some 52), none, .q (.bin .lss (.t 49) (.t 51)), []⟩,
    ⟨(some 53), none, .q (.mv (.t 52)), []⟩,
    ⟨(some 54), (some (53, true)), .q (.mv (.t 0)), []⟩,
    ⟨(some 55), (some (53, true)), .q (.mv (.t 5)), []⟩,
    ⟨(some 56), (some (53, true)), .q (.idx (.t 54) (.t 55)), []⟩,
    ⟨(some 57), (some (53, true)), .q (.bin .eql (.t 56) (.v (.int .u8 36))), []⟩,
    ⟨(some 58), none, .q (.pick (.t 53) (.t 57) (.v (.bool false))), []⟩]) Q a σ := id rfl
@[go_sem] theorem c28_25_wp (P : Program) (Q : APost) (a : AFr) (σ : ASt) : c28_25.wp P Q a σ = ACode.wp P (.ops [
    ⟨(some 59), none, .q (.fa 2 (.t 4)), []⟩,
    ⟨none, none, .e (.store 1 (.t 59) (.v (.bool true))), []⟩]) Q a σ := id rfl
@[go_sem] theorem c28_26_wp (P : Program) (Q : APost) (a : AFr) (σ : ASt) : c28_26.wp P Q a σ = ACode.wp P (.ops [
    ⟨(some 60), none, .q (.mv (.t 5)), []⟩,
    ⟨(some 61), none, .q (.bin .add (.t 60) (.v (.int .i64 1))), []⟩,
    ⟨(some 5), none, .q (.mv (.t 61)), []⟩]) Q a σ := id rfl
@[go_sem] theorem c28_27_wp (P : Program) (Q : APost) (a : AFr) (σ : ASt) : c28_27.wp P Q a σ = ACode.wp P (.seq c28_25 c28_26) Q a σ := id rfl
@[go_sem] theorem c28_28_wp (P : Program) (Q : APost) (a : AFr) (σ : ASt) : c28_28.wp P Q a σ = ACode.wp P (.cond (.t 58) c28_27 .skip) Q a σ := id rfl
@[go_sem] theorem c28_29_wp (P : Program) (Q : APost) (a : AFr) (σ : ASt) : c28_29.wp P Q a σ = ACode.wp P (.seq c28_24 c28_28) Q a σ := id rfl
@[go_sem] theorem c28_30_wp (P : Program) (Q : APost) (a : AFr) (σ : ASt) : c28_30.wp P Q a σ = ACode.wp P (.ops [
    ⟨(some 62), none, .q (.mv (.t 5)), []⟩,
    ⟨(some 9), none, .q (.mv (.v (.int .i64 0))), []⟩,
    ⟨(some 10), none, .q (.mv (.t 62)), []⟩]) Q a σ := id rfl
@[go_sem] theorem c28_31_wp (P : Program) (Q : APost) (a : AFr) (σ : ASt) : c28_31.wp P Q a σ = ACode.wp P (.ops [
    ⟨(some 63), none, .q (.mv (.t 5)), []⟩,
    ⟨(some 64), none, .q (.mv (.t 0)), []⟩,
    ⟨(some 65), none, .q (.lenS (.t 64)), []⟩,
    ⟨(some 66), none, .q (.bin .lss (.t 63) (.t 65)), []⟩,
    ⟨(some 67), none, .q (.mv (.t 66)), []⟩,
    ⟨(some 68), (some (67, true)), .q (.mv (.t 0)), []⟩,
    ⟨(some 69), (some (67, true)), .q (.mv (.t 5)), []⟩,
    ⟨(some 70), (some (67, true)), .q (.idx (.t 68) (.t 69)), []⟩,
    ⟨(some 71), (some (67, true)), .q (.bin .geq (.t 70) (.v (.int .u8 48))), []⟩,
    ⟨(some 72), none, .q (.pick (.t 67) (.t 71) (.v (.bool false))), []⟩,
    ⟨(some 73), none, .q (.mv (.t 72)), []⟩,
    ⟨(some 74), (some (73, true)), .q (.mv (.t 0)), []⟩,
    ⟨(some 75), (some (73, true)), .q (.mv (.t 5)), []⟩,
    ⟨(some 76), (some (73, true)), .q (.idx (.t 74) (.t 75)), []⟩,
    ⟨(some 77), (some (73, true)), .q (.bin .leq (.t 76) (.v (.int .u8 57))), []⟩,
    ⟨(some 78), none, .q (.pick (.t 73) (.t 77) (.v (.bool false))), []⟩]) Q a σ := id rfl
@[go_sem] theorem c28_32_wp (P : Program) (Q : APost) (a : AFr) (σ : ASt) : c28_32.wp P Q a σ = ACode.wp P (.cond (.t 78) .skip (.exit 2)) Q a σ := id rfl
@[go_sem] theorem c28_33_wp (P : Program) (Q : APost) (a : AFr) (σ : ASt) : c28_33.wp P Q a σ = ACode.wp P (.seq c28_31 c28_32) Q a σ := id rfl
@[go_sem] theorem c28_34_wp (P : Program) (Q : APost) (a : AFr) (σ : ASt) : c28_34.wp P Q a σ = ACode.wp P (.ops [
    ⟨(some 79), none, .q (.mv (.t 9)), []⟩,
    ⟨(some 80), none, .q (.bin .mul (.v (.int .i64 10)) (.t 79)), []⟩,
    ⟨(some 81), none, .q (.mv (.t 0)), []⟩,
    ⟨(some 82), none, .q (.mv (.t 5)), []⟩,
    ⟨(some 83), none, .q (.idx (.t 81) (.t 82)), []⟩,
    ⟨(some 84), none, .q (.bin .sub (.t 83) (.v (.int .u8 48))), []⟩,
    ⟨(some 85), none, .q (.conv .i64 (.t 84)), []⟩,
    ⟨(some 86), none, .q (.bin .add (.t 80) (.t 85)), []⟩,
    ⟨(some 87), none, .q (.mnx false (.t 86) (.v (.int .i64 3001))), []⟩,
    ⟨(some 9), none, .q (.mv (.t 87)), []⟩]) Q a σ := id rfl
@[go_sem] theorem c28_35_wp (P : Program) (Q : APost) (a : AFr) (σ : ASt) : c28_35.wp P Q a σ = ACode.wp P (.ops [
    ⟨(some 88), none, .q (.mv (.t 5)), []⟩,
    ⟨(some 89), none, .q (.bin .add (.t 88) (.v (.int .i64 1))), []⟩,
    ⟨(some 5), none, .q (.mv (.t 89)), []⟩]) Q a σ := id rfl
@[go_sem] theorem c28_36_wp (P : Program) (Q : APost) (a : AFr) (σ : ASt) : c28_36.wp P Q a σ = ACode.wp P (.seq c28_34 c28_35) Q a σ := id rfl
@[go_sem] theorem c28_37_wp (P : Program) (Q : APost) (a : AFr) (σ : ASt) : c28_37.wp P Q a σ = ACode.wp P (.block 3 c28_36) Q a σ := id rfl
@[go_sem] theorem c28_38_wp (P : Program) (Q : APost) (a : AFr) (σ : ASt) : c28_38.wp P Q a σ = ACode.wp P (.seq c28_33 c28_37) Q a σ := id rfl
@[go_sem] theorem c28_39_wp (P : Program) (Q : APost) (a : AFr) (σ : ASt) : c28_39.wp P Q a σ = ACode.wp P (.loop c28_38) Q a σ := id rfl
@[go_sem] theorem c28_40_wp (P : Program) (Q : APost) (a : AFr) (σ : ASt) : c28_40.wp P Q a σ = ACode.wp P (.block 2 c28_39) Q a σ := id rfl
@[go_sem] theorem c28_41_wp (P : Program) (Q : APost) (a : AFr) (σ : ASt) : c28_41.wp P Q a σ = ACode.wp P (.ops [
    ⟨(some 90), none, .q (.mv (.t 9)), []⟩,
    ⟨(some 91), none, .q (.bin .lss (.t 90) (.v (.int .i64 1))), []⟩,
    ⟨(some 92), none, .q (.mv (.t 91)), []⟩,
    ⟨(some 93), (some (92, false)), .q (.mv (.t 9)), []⟩,
    ⟨(some 94), (some (92, false)), .q (.bin .gtr (.t 93) (.v (.int .i64 3000))), []⟩,
    ⟨(some 95), none, .q (.pick (.t 92) (.v (.bool true)) (.t 94)), []⟩,
    ⟨(some 96), none, .q (.mv (.t 95)), []⟩,
    ⟨(some 97), (some (96, false)), .q (.mv (.t 0)), []⟩,
    ⟨(some 98), (some (96, false)), .q (.mv (.t 10)), []⟩,
    ⟨(some 99), (some (96, false)), .q (.idx (.t 97) (.t 98)), []⟩,
    ⟨(some 100), (some (96, false)), .q (.bin .eql (.t 99) (.v (.int .u8 48))), []⟩,
    ⟨(some 101), none, .q (.pick (.t 96) (.v (.bool true)) (.t 100)), []⟩,
    ⟨(some 102), none, .q (.mv (.t 101)), []⟩,
    ⟨(some 103), (some (102, false)), .q (.mv (.t 0)), []⟩,
    ⟨(some 104), (some (102, false)), .q (.mv (.t 5)), []⟩,
    ⟨(some 105), (some (102, false)), .e (.call 31 [(.t 103), (.t 104)]), []⟩,
    ⟨(some 106), (some (102, false)), .e (.call 25 [(.t 105)]), []⟩,
    ⟨(some 107), (some (102, false)), .q (.bin .gtr (.t 106) (.v (.int .i64 0))), []⟩,
    ⟨(some 108), none, .q (.pick (.t 102) (.v (.bool true)) (.t 107)), []⟩,
    ⟨(some 109), none, .q (.mv (.t 108)), []⟩,
    ⟨(some 110), (some (109, false)), .q (.mv (.t 0)), []⟩,
    ⟨(some 111), (some (109, false)), .q (.mv (.t 5)), []⟩,
    ⟨(some 112), (some (109, false)), .e (.call 31 [(.t 110), (.t 111)]), []⟩,
    ⟨(some 113), (some (109, false)), .q (.bin .eql (.t 112) (.v (.int .u8 95))), []⟩,
    ⟨(some 114), none, .q (.pick (.t 109) (.v (.bool true)) (.t 113)), []⟩]) Q a σ := id rfl
@[go_sem] theorem c28_42_wp (P : Program) (Q : APost) (a : AFr) (σ : ASt) : c28_42.wp P Q a σ = ACode.wp P (.ops [
    ⟨(some 115), none, .q (.build [(.int .i64 0), (.int .i64 0), (.bool false), (.bool false)] []), []⟩,
    ⟨none, none, .e (.store 4 (.t 2) (.t 115)), []⟩,
    ⟨(some 3), none, .q (.mv (.v (.int .i64 0))), []⟩]) Q a σ := id rfl
@[go_sem] theorem c28_43_wp (P : Program) (Q : APost) (a : AFr) (σ : ASt) : c28_43.wp P Q a σ = ACode.wp P (.seq c28_42 .ret) Q a σ := id rfl
@[go_sem] theorem c28_44_wp (P : Program) (Q : APost) (a : AFr) (σ : ASt) : c28_44.wp P Q a σ = ACode.wp P (.cond (.t 114) c28_43 .skip) Q a σ := id rfl
@[go_sem] theorem c28_45_wp (P : Program) (Q : APost) (a : AFr) (σ : ASt) : c28_45.wp P Q a σ = ACode.wp P (.seq c28_41 c28_44) Q a σ := id rfl
@[go_sem] theorem c28_46_wp (P : Program) (Q : APost) (a : AFr) (σ : ASt) : c28_46.wp P Q a σ = ACode.wp P (.ops [
    ⟨(some 116), none, .q (.mv (.t 9)), []⟩,
    ⟨(some 117), none, .q (.bin .sub (.t 116) (.v (.int .i64 1))), []⟩,
    ⟨(some 118), none, .q (.mv (.t 7)), []⟩,
    ⟨(some 119), none, .q (.fa 0 (.t 4)), []⟩,
    ⟨none, none, .e (.store 1 (.t 119) (.t 117)), []⟩,
    ⟨(some 120), none, .q (.fa 1 (.t 4)), []⟩,
    ⟨none, none, .e (.store 1 (.t 120) (.t 118)), []⟩]) Q a σ := id rfl
@[go_sem] theorem c28_47_wp (P : Program) (Q : APost) (a : AFr) (σ : ASt) : c28_47.wp P Q a σ = ACode.wp P (.ops [
    ⟨(some 121), none, .q (.ld (some 4) (.t 4)), []⟩,
    ⟨(some 122), none, .q (.mv (.t 5)), []⟩,
    ⟨none, none, .e (.store 4 (.t 2) (.t 121)), []⟩,
    ⟨(some 3), none, .q (.mv (.t 122)), []⟩]) Q a σ := id rfl
@[go_sem] theorem c28_48_wp (P : Program) (Q : APost) (a : AFr) (σ : ASt) : c28_48.wp P Q a σ = ACode.wp P (.seq c28_47 .ret) Q a σ := id rfl
@[go_sem] theorem c28_49_wp (P : Program) (Q : APost) (a : AFr) (σ : ASt) : c28_49.wp P Q a σ = ACode.wp P (.seq c28_46 c28_48) Q a σ := id rfl
@[go_sem] theorem c28_50_wp (P : Program) (Q : APost) (a : AFr) (σ : ASt) : c28_50.wp P Q a σ = ACode.wp P (.seq c28_45 c28_49) Q a σ := id rfl
@[go_sem] theorem c28_51_wp (P : Program) (Q : APost) (a : AFr) (σ : ASt) : c28_51.wp P Q a σ = ACode.wp P (.seq c28_40 c28_50) Q a σ := id rfl
@[go_sem] theorem c28_52_wp (P : Program) (Q : APost) (a : AFr) (σ : ASt) : c28_52.wp P Q a σ = ACode.wp P (.seq c28_30 c28_51) Q a σ := id rfl
@[go_sem] theorem c28_53_wp (P : Program) (Q : APost) (a : AFr) (σ : ASt) : c28_53.wp P Q a σ = ACode.wp P (.seq c28_29 c28_52) Q a σ := id rfl
@[go_sem] theorem c28_54_wp (P : Program) (Q : APost) (a : AFr) (σ : ASt) : c28_54.wp P Q a σ = ACode.wp P (.seq c28_23 c28_53) Q a σ := id rfl
@[go_sem] theorem c28_55_wp (P : Program) (Q : APost) (a : AFr) (σ : ASt) : c28_55.wp P Q a σ = ACode.wp P (.seq c28_18 c28_54) Q a σ := id rfl
@[go_sem] theorem c28_56_wp (P : Program) (Q : APost) (a : AFr) (σ : ASt) : c28_56.wp P Q a σ = ACode.wp P (.seq c28_17 c28_55) Q a σ := id rfl
@[go_sem] theorem c28_57_wp (P : Program) (Q : APost) (a : AFr) (σ : ASt) : c28_57.wp P Q a σ = ACode.wp P (.seq c28_9 c28_56) Q a σ := id rfl
@[go_sem] theorem c28_58_wp (P : Program) (Q : APost) (a : AFr) (σ : ASt) : c28_58.wp P Q a σ = ACode.wp P (.seq c28_8 c28_57) Q a σ := id rfl
@[go_sem] theorem c28_59_wp (P : Program) (Q : APost) (a : AFr) (σ : ASt) : c28_59.wp P Q a σ = ACode.wp P (.seq c28_2 c28_58) Q a σ := id rfl
@[go_sem] theorem c28_60_wp (P : Program) (Q : APost) (a : AFr) (σ : ASt) : c28_60.wp P Q a σ = ACode.wp P (.seq c28_1 c28_59) Q a σ := id rfl
@[go_sem] theorem c28_61_wp (P : Program) (Q : APost) (a : AFr) (σ : ASt) : c28_61.wp P Q a σ = ACode.wp P (.seq c28_0 c28_60) Q a σ := id rfl
def c28 : AFn := ⟨123, [.c 2 (some 4), .t 3], c28_61⟩
set_option maxRecDepth 100000 in
theorem c28_ok : compF Try.prog Try.f28 = some c28 := by kernel_rfl
theorem a28 {args : List AV} {σ : ASt} {R : AV → ASt → Prop} (hl : args.length ≤ 123) (h : c28_61.wp Try.prog (RetQ [.c 2 (some 4), .t 3] R) (init args) σ) : ACalls Try.prog 28 args σ R := acalls_of Try.func28 c28_ok hl h

/-! 29: tabular/addr.ParseArea -/
def c29_0 : ACode := .ops [
    ⟨(some 2), none, .e (.alloc [(.int .i64 0), (.int .i64 0), (.bool false), (.bool false), (.int .i64 0), (.int .i64 0), (.bool false), (.bool false)]), []⟩,
    ⟨(some 3), none, .q (.mv (.v (.bool false))), []⟩]
def c29_1 : ACode := .ops [
    ⟨(some 9), none, .q (.mv (.t 0)), []⟩,
    ⟨(some 10), none, .e (.call 28 [(.t 9)]), []⟩,
    ⟨(some 8), none, .q (.mv (.t 10)), []⟩,
    ⟨(some 11), none, .q (.ext 0 (.t 8)), []⟩,
    ⟨(some 12), none, .q (.ext 1 (.t 8)), []⟩,
    ⟨(some 4), none, .e (.alloc [(.int .i64 0), (.int .i64 0), (.bool false), (.bool false)]), []⟩,
    ⟨none, none, .e (.store 4 (.t 4) (.t 11)), []⟩,
    ⟨(some 5), none, .q (.mv (.t 12)), []⟩]
def c29_2 : ACode := .ops [
    ⟨(some 13), none, .q (.mv (.t 5)), []⟩,
    ⟨(some 14), none, .q (.bin .eql (.t 13) (.v (.int .i64 0))), []⟩]
def c29_3 : ACode := .ops [
    ⟨(some 15), none, .q (.build [(.int .i64 0), (.int .i64 0), (.bool false), (.bool false), (.int .i64 0), (.int .i64 0), (.bool false), (.bool false)] []), []⟩,
    ⟨none, none, .e (.store 8 (.t 2) (.t 15)), []⟩,
    ⟨(some 3), none, .q (.mv (.v (.bool false))), []⟩]
def c29_4 : ACode := .seq c29_3 .ret
def c29_5 : ACode := .cond (.t 14) c29_4 .skip
def c29_6 : ACode := .seq c29_2 c29_5
def c29_7 : ACode := .ops [
    ⟨(some 16), none, .q (.mv (.t 5)), []⟩,
    ⟨(some 17), none, .q (.mv (.t 0)), []⟩,
    ⟨(some 18), none, .q (.lenS (.t 17)), []⟩,
    ⟨(some 19), none, .q (.bin .eql (.t 16) (.t 18)), []⟩]
def c29_8 : ACode := .ops [
    ⟨(some 20), none, .q (.ld (some 4) (.t 4)), []⟩,
    ⟨(some 21), none, .q (.ld (some 4) (.t 4)), []⟩,
    ⟨(some 22), none, .q (.build [(.int .i64 0), (.int .i64 0), (.bool false), (.bool false), (.int .i64 0), (.int .i64 0), (.bool false), (.bool false)] [(0, 4, (.t 20)), (4, 4, (.t 21))]), []⟩,
    ⟨none, none, .e (.store 8 (.t 2) (.t 22)), []⟩,
    ⟨(some 3), none, .q (.mv (.v (.bool true))), []⟩]
def c29_9 : ACode := .seq c29_8 .ret
def c29_10 : ACode := .cond (.t 19) c29_9 .skip
def c29_11 : ACode := .seq c29_7 c29_10
def c29_12 : ACode := .ops [
    ⟨(some 23), none, .q (.mv (.t 0)), []⟩,
    ⟨(some 24), none, .q (.mv (.t 5)), []⟩,
    ⟨(some 25), none, .q (.idx (.t 23) (.t 24)), []⟩,
    ⟨(some 26), none, .q (.bin .neq (.t 25) (.v (.int .u8 58))), []⟩]
def c29_13 : ACode := .ops [
    ⟨(some 27), none, .q (.build [(.int .i64 0), (.int .i64 0), (.bool false), (.bool false), (.int .i64 0), (.int .i64 0), (.bool false), (.bool false)] []), []⟩,
    ⟨none, none, .e (.store 8 (.t 2) (.t 27)), []⟩,
    ⟨(some 3), none, .q (.mv (.v (.bool false))), []⟩]
def c29_14 : ACode := .seq c29_13 .ret
def c29_15 : ACode := .cond (.t 26) c29_14 .skip
def c29_16 : ACode := .seq c29_12 c29_15
def c29_17 : ACode := .ops [
    ⟨(some 29), none, .q (.mv (.t 0)), []⟩,
    ⟨(some 30), none, .q (.mv (.t 5)), []⟩,
    ⟨(some 31), none, .q (.bin .add (.t 30) (.v (.int .i64 1))), []⟩,
    ⟨(some 32), none, .q (.slfrom (true, 0) (.t 29) (.t 31)), []⟩,
    ⟨(some 33), none, .e (.call 32 [(.t 32)]), []⟩,
    ⟨(some 28), none, .q (.mv (.t 33)), []⟩,
    ⟨(some 34), none, .q (.ext 0 (.t 28)), []⟩,
    ⟨(some 35), none, .q (.ext 1 (.t 28)), []⟩,
    ⟨(some 6), none, .e (.alloc [(.int .i64 0), (.int .i64 0), (.bool false), (.bool false)]), []⟩,
    ⟨none, none, .e (.store 4 (.t 6) (.t 34)), []⟩,
    ⟨(some 7), none, .q (.mv (.t 35)), []⟩]
def c29_18 : ACode := .ops [
    ⟨(some 36), none, .q (.mv (.t 7)), []⟩,
    ⟨(some 37), none, .q (.un .not (.t 36)), []⟩]
def c29_19 : ACode := .ops [
    ⟨(some 38), none, .q (.build [(.int .i64 0), (.int .i64 0), (.bool false), (.bool false), (.int .i64 0), (.int .i64 0), (.bool false), (.bool false)] []), []⟩,
    ⟨none, none, .e (.store 8 (.t 2) (.t 38)), []⟩,
    ⟨(some 3), none, .q (.mv (.v (.bool false))), []⟩]
def c29_20 : ACode := .seq c29_19 .ret
def c29_21 : ACode := .cond (.t 37) c29_20 .skip
def c29_22 : ACode := .seq c29_18 c29_21
def c29_23 : ACode := .ops [
    ⟨(some 39), none, .q (.ld (some 4) (.t 4)), []⟩,
    ⟨(some 40), none, .q (.ld (some 4) (.t 6)), []⟩,
    ⟨(some 41), none, .q (.build [(.int .i64 0), (.int .i64 0), (.bool false), (.bool false), (.int .i64 0), (.int .i64 0), (.bool false), (.bool false)] [(0, 4, (.t 39)), (4, 4, (.t 40))]), []⟩,
    ⟨none, none, .e (.store 8 (.t 2) (.t 41)), []⟩,
    ⟨(some 3), none, .q (.mv (.v (.bool true))), []⟩]
def c29_24 : ACode := .seq c29_23 .ret
def c29_25 : ACode := .seq c29_22 c29_24
def c29_26 : ACode := .seq c29_17 c29_25
def c29_27 : ACode := .seq c29_16 c29_26
def c29_28 : ACode := .seq c29_11 c29_27
def c29_29 : ACode := .seq c29_6 c29_28
def c29_30 : ACode := .seq c29_1 c29_29
def c29_31 : ACode := .seq c29_0 c29_30
@[go_sem] theorem c29_0_wp (P : Program) (Q : APost) (a : AFr) (σ : ASt) : c29_0.wp P Q a σ = ACode.wp P (.ops [
    ⟨(some 2), none, .e (.alloc [(.int .i64 0), (.int .i64 0), (.bool false), (.bool false), (.int .i64 0), (.int .i64 0), (.bool false), (.bool false)]), []⟩,
    ⟨(some 3), none, .q (.mv (.v (.bool false))), []⟩]) Q a σ := id rfl
@[go_sem] theorem c29_1_wp (P : Program) (Q : APost) (a : AFr) (σ : ASt) : c29_1.wp P Q a σ = ACode.wp P (.ops [
    ⟨(some 9), none, .q (.mv (.t 0)), []⟩,
    ⟨(some 10), none, .e (.call 28 [(.t 9)]), []⟩,
    ⟨(some 8), none, .q (.mv (.t 10)), []⟩,
    ⟨(some 11), none, .q (.ext 0 (.t 8)), []⟩,
    ⟨(some 12), none, .q (.ext 1 (.t 8)), []⟩,
    ⟨(some 4), none, .e (.alloc [(.int .i64 0), (.int .i64 0), (.bool false), (.bool false)]), []⟩,
    ⟨none, none, .e (.store 4 (.t 4) (.t 11)), []⟩,
    ⟨(some 5), none, .q (.mv (.t 12)), []⟩]) Q a σ := id rfl
@[go_sem] theorem c29_2_wp (P : Program) (Q : APost) (a : AFr) (σ : ASt) : c29_2.wp P Q a σ = ACode.wp P (.ops [
    ⟨(some 13), none, .q (.mv (.t 5)), []⟩,
    ⟨(some 14), none, .q (.bin .eql (.t 13) (.v (.int .i64 0))), []⟩]) Q a σ := id rfl
@[go_sem] theorem c29_3_wp (P : Program) (Q : APost) (a : AFr) (σ : ASt) : c29_3.wp P Q a σ = ACode.wp P (.ops [
    ⟨(some 15), none, .q (.build [(.int .i64 0), (.int .i64 0), (.bool false), (.bool false), (.int .i64 0), (.int .i64 0), (.bool false), (.bool false)] []), []⟩,
    ⟨none, none, .e (.store 8 (.t 2) (.t 15)), []⟩,
    ⟨(some 3), none, .q (.mv (.v (.bool false))), []⟩]) Q a σ := id rfl
@[go_sem] theorem c29_4_wp (P : Program) (Q : APost) (a : AFr) (σ : ASt) : c29_4.wp P Q a σ = ACode.wp P (.seq c29_3 .ret) Q a σ := id rfl
@[go_sem] theorem c29_5_wp (P : Program) (Q : APost) (a : AFr) (σ : ASt) : c29_5.wp P Q a σ = ACode.wp P (.cond (.t 14) c29_4 .skip) Q a σ := id rfl
@[go_sem] theorem c29_6_wp (P : Program) (Q : APost) (a : AFr) (σ : ASt) : c29_6.wp P Q a σ = ACode.wp P (.seq c29_2 c29_5) Q a σ := id rfl
@[go_sem] theorem c29_7_wp (P : Program) (Q : APost) (a : AFr) (σ : ASt) : c29_7.wp P Q a σ = ACode.wp P (.ops [
    ⟨(some 16), none, .q (.mv (.t 5)), []⟩,
    ⟨(some 17), none, .q (.mv (.t 0)), []⟩,
    ⟨(some 18), none, .q (.lenS (.t 17)), []⟩,
    ⟨(some 19), none, .q (.bin .eql (.t 16) (.t 18)), []⟩]) Q a σ := id rfl
@[go_sem] theorem c29_8_wp (P : Program) (Q : APost) (a : AFr) (σ : ASt) : c29_8.wp P Q a σ = ACode.wp P (.ops [
    ⟨(some 20), none, .q (.ld (some 4) (.t 4)), []⟩,
    ⟨(some 21), none, .q (.ld (some 4) (.t 4)), []⟩,
    ⟨(some 22), none, .q (.build [(.int .i64 0), (.int .i64 0), (.bool false), (.bool false), (.int .i64 0), (.int .i64 0), (.bool false), (.bool false)] [(0, 4, (.t 20)), (4, 4, (.t 21))]), []⟩,
    ⟨none, none, .e (.store 8 (.t 2) (.t 22)), []⟩,
    ⟨(some 3), none, .q (.mv (.v (.bool true))), []⟩]) Q a σ := id rfl
@[go_sem] theorem c29_9_wp (P : Program) (Q : APost) (a : AFr) (σ : ASt) : c29_9.wp P Q a σ = ACode.wp P (.seq c29_8 .ret) Q a σ := id rfl
@[go_sem] theorem c29_10_wp (P : Program) (Q : APost) (a : AFr) (σ : ASt) : c29_10.wp P Q a σ = ACode.wp P (.cond (.t 19) c29_9 .skip) Q a σ := id rfl
@[go_sem] theorem c29_11_wp (P : Program) (Q : APost) (a : AFr) (σ : ASt) : c29_11.wp P Q a σ = ACode.wp P (.seq c29_7 c29_10) Q a σ := id rfl
@[go_sem] theorem c29_12_wp (P : Program) (Q : APost) (a : AFr) (σ : ASt) : c29_12.wp P Q a σ = ACode.wp P (.ops [
    ⟨(some 23), none, .q (.mv (.t 0)), []⟩,
    ⟨(some 24), none, .q (.mv (.t 5)), []⟩,
    ⟨(some 25), none, .q (.idx (.t 23) (.t 24)), []⟩,
    ⟨(some 26), none, .q (.bin .neq (.t 25) (.v (.int .u8 58))), []⟩]) Q a σ := id rfl
@[go_sem] theorem c29_13_wp (P : Program) (Q : APost) (a : AFr) (σ : ASt) : c29_13.wp P Q a σ = ACode.wp P (.ops [
    ⟨(some 27), none, .q (.build [(.int .i64 0), (.int .i64 0), (.bool false), (.bool false), (.int .i64 0), (.int .i64 0), (.bool false), (.bool false)] []), []⟩,
    ⟨none, none, .e (.store 8 (.t 2) (.t 27)), []⟩,
    ⟨(some 3), none, .q (.mv (.v (.bool false))), []⟩]) Q a σ := id rfl
@[go_sem] theorem c29_14_wp (P : Program) (Q : APost) (a : AFr) (σ : ASt) : c29_14.wp P Q a σ = ACode.wp P (.seq c29_13 .ret) Q a σ := id rfl
@[go_sem] theorem c29_15_wp (P : Program) (Q : APost) (a : AFr) (σ : ASt) : c29_15.wp P Q a σ = ACode.wp P (.cond (.t 26) c29_14 .skip) Q a σ := id rfl
@[go_sem] theorem c29_16_wp (P : Program) (Q : APost) (a : AFr) (σ : ASt) : c29_16.wp P Q a σ = ACode.wp P (.seq c29_12 c29_15) Q a σ := id rfl
@[go_sem] theorem c29_17_wp (P : Program) (Q : APost) (a : AFr) (σ : ASt) : c29_17.wp P Q a σ = ACode.wp P (.ops [
    ⟨(some 29), none, .q (.mv (.t 0)), []⟩,
    ⟨(some 30), none, .q (.mv (.t 5)), []⟩,
    ⟨(some 31), none, .q (.bin .add (.t 30) (.v (.int .i64 1))), []⟩,
    ⟨(some 32), none, .q (.slfrom (true, 0) (.t 29) (.t 31)), []⟩,
    ⟨(some 33), none, .e (.call 32 [(.t 32)]), []⟩,
    ⟨(some 28), none, .q (.mv (.t 33)), []⟩,
    ⟨(some 34), none, .q (.ext 0 (.t 28)), []⟩,
    ⟨(some 35), none, .q (.ext 1 (.t 28)), []⟩,
    ⟨(some 6), none, .e (.alloc [(.int .i64 0), (.int .i64 0), (.bool false), (.bool false)]), []⟩,
    ⟨none, none, .e (.store 4 (.t 6) (.t 34)), []⟩,
    ⟨(some 7), none, .q (.mv (.t 35)), []⟩]) Q a σ := id rfl
@[go_sem] theorem c29_18_wp (P : Program) (Q : APost) (a : AFr) (σ : ASt) : c29_18.wp P Q a σ = ACode.wp P (.ops [
    ⟨(some 36), none, .q (.mv (.t 7)), []⟩,
    ⟨(some 37), none, .q (.un .not (.t 36)), []⟩]) Q a σ := id rfl
@[go_sem] theorem c29_19_wp (P : Program) (Q : APost) (a : AFr) (σ : ASt) : c29_19.wp P Q a σ = ACode.wp P (.ops [
    ⟨(some 38), none, .q (.build [(.int .i64 0), (.int .i64 0), (.bool false), (.bool false), (.int .i64 0), (.int .i64 0), (.bool false), (.bool false)] []), []⟩,
    ⟨none, none, .e (.store 8 (.t 2) (.t 38)), []⟩,
    ⟨(some 3), none, .q (.mv (.v (.bool false))), []⟩]) Q a σ := id rfl
@[go_sem] theorem c29_20_wp (P : Program) (Q : APost) (a : AFr) (σ : ASt) : c29_20.wp P Q a σ = ACode.wp P (.seq c29_19 .ret) Q a σ := id rfl
@[go_sem] theorem c29_21_wp (P : Program) (Q : APost) (a : AFr) (σ : ASt) : c29_21.wp P Q a σ = ACode.wp P (.cond (.t 37) c29_20 .skip) Q a σ := id rfl
@[go_sem] theorem c29_22_wp (P : Program) (Q : APost) (a : AFr) (σ : ASt) : c29_22.wp P Q a σ = ACode.wp P (.seq c29_18 c29_21) Q a σ := id rfl
@[go_sem] theorem c29_23_wp (P : Program) (Q : APost) (a : AFr) (σ : ASt) : c29_23.wp P Q a σ = ACode.wp P (.ops [
    ⟨(some 39), none, .q (.ld (some 4) (.t 4)), []⟩,
    ⟨(some 40), none, .q (.ld (some 4) (.t 6)), []⟩,
    ⟨(some 41), none, .q (.build [(.int .i64 0), (.int .i64 0), (.bool false), (.bool false), (.int .i64 0), (.int .i64 0), (.bool false), (.bool false)] [(0, 4, (.t 39)), (4, 4, (.t 40))]), []⟩,
    ⟨none, none, .e (.store 8 (.t 2) (.t 41)), []⟩,
    ⟨(some 3), none, .q (.mv (.v (.bool true))), []⟩]) Q a σ := id rfl
@[go_sem] theorem c29_24_wp (P : Program) (Q : APost) (a : AFr) (σ : ASt) : c29_24.wp P Q a σ = ACode.wp P (.seq c29_23 .ret) Q a σ := id rfl
@[go_sem] theorem c29_25_wp (P : Program) (Q : APost) (a : AFr) (σ : ASt) : c29_25.wp P Q a σ = ACode.wp P (.seq c29_22 c29_24) Q a σ := id rfl
@[go_sem] theorem c29_26_wp (P : Program) (Q : APost) (a : AFr) (σ : ASt) : c29_26.wp P Q a σ = ACode.wp P (.seq c29_17 c29_25) Q a σ := id rfl
@[go_sem] theorem c29_27_wp (P : Program) (Q : APost) (a : AFr) (σ : ASt) : c29_27.wp P Q a σ = ACode.wp P (.seq c29_16 c29_26) Q a σ := id rfl
@[go_sem] theorem c29_28_wp (P : Program) (Q : APost) (a : AFr) (σ : ASt) : c29_28.wp P Q a σ = ACode.wp P (.seq c29_11 c29_27) Q a σ := id rfl
@[go_sem] theorem c29_29_wp (P : Program) (Q : APost) (a : AFr) (σ : ASt) : c29_29.wp P Q a σ = ACode.wp P (.seq c29_6 c29_28) Q a σ := id rfl
@[go_sem] theorem c29_30_wp (P : Program) (Q : APost) (a : AFr) (σ : ASt) : c29_30.wp P Q a σ = ACode.wp P (.seq c29_1 c29_29) Q a σ := id rfl
@[go_sem] theorem c29_31_wp (P : Program) (Q : APost) (a : AFr) (σ : ASt) : c29_31.wp P Q a σ = ACode.wp P (.seq c29_0 c29_30) Q a σ := id rfl
def c29 : AFn := ⟨42, [.c 2 (some 8), .t 3], c29_31⟩
set_option maxRecDepth 100000 in
theorem c29_ok : compF Try.prog Try.f29 = some c29 := by kernel_rfl
theorem a29 {args : List AV} {σ : ASt} {R : AV → ASt → Prop} (hl : args.length ≤ 42) (h : c29_31.wp Try.prog (RetQ [.c 2 (some 8), .t 3] R) (init args) σ) : ACalls Try.prog 29 args σ R := acalls_of Try.func29 c29_ok hl h

/-! 31: tabular/addr.at -/
def c31_0 : ACode := .ops [
    ⟨(some 4), none, .q (.mv (.v (.int .u8 0))), []⟩]
def c31_1 : ACode := .ops [
    ⟨(some 5), none, .q (.mv (.t 1)), []⟩,
    ⟨(some 6), none, .q (.mv (.t 0)), []⟩,
    ⟨(some 7), none, .q (.lenS (.t 6)), []⟩,
    ⟨(some 8), none, .q (.bin .lss (.t 5) (.t 7)), []⟩]
def c31_2 : ACode := .ops [
    ⟨(some 9), none, .q (.mv (.t 0)), []⟩,
    ⟨(some 10), none, .q (.mv (.t 1)), []⟩,
    ⟨(some 11), none, .q (.idx (.t 9) (.t 10)), []⟩,
    ⟨(some 4), none, .q (.mv (.t 11)), []⟩]
def c31_3 : ACode := .seq c31_2 .ret
def c31_4 : ACode := .cond (.t 8) c31_3 .skip
def c31_5 : ACode := .seq c31_1 c31_4
def c31_6 : ACode := .ops [
    ⟨(some 4), none, .q (.mv (.v (.int .u8 0))), []⟩]
def c31_7 : ACode := .seq c31_6 .ret
def c31_8 : ACode := .seq c31_5 c31_7
def c31_9 : ACode := .seq c31_0 c31_8
@[go_sem] theorem c31_0_wp (P : Program) (Q : APost) (a : AFr) (σ : ASt) : c31_0.wp P Q a σ = ACode.wp P (.ops [
    ⟨(some 4), none, .q (.mv (.v (.int .u8 0))), []⟩]) Q a σ := id rfl
@[go_sem] theorem c31_1_wp (P : Program) (Q : APost) (a : AFr) (σ : ASt) : c31_1.wp P Q a σ = ACode.wp P (.ops [
    ⟨(some 5), none, .q (.mv (.t 1)), []⟩,
    ⟨(some 6), none, .q (.mv (.t 0)), []⟩,
    ⟨(some 7), none, .q (.lenS (.t 6)), []⟩,
    ⟨(some 8), none, .q (.bin .lss (.t 5) (.t 7)), []⟩]) Q a σ := id rfl
@[go_sem] theorem c31_2_wp (P : Program) (Q : APost) (a : AFr) (σ : ASt) : c31_2.wp P Q a σ = ACode.wp P (.ops [
    ⟨(some 9), none, .q (.mv (.t 0)), []⟩,
    ⟨(some 10), none, .q (.mv (.t 1)), []⟩,
    ⟨(some 11), none, .q (.idx (.t 9) (.t 10)), []⟩,
    ⟨(some 4), none, .q (.mv (.t 11)), []⟩]) Q a σ := id rfl
@[go_sem] theorem c31_3_wp (P : Program) (Q : APost) (a : AFr) (σ : ASt) : c31_3.wp P Q a σ = ACode.wp P (.seq c31_2 .ret) Q a σ := id rfl
@[go_sem] theorem c31_4_wp (P : Program) (Q : APost) (a : AFr) (σ : ASt) : c31_4.wp P Q a σ = ACode.wp P (.cond (.t 8) c31_3 .skip) Q a σ := id rfl
@[go_sem] theorem c31_5_wp (P : Program) (Q : APost) (a : AFr) (σ : ASt) : c31_5.wp P Q a σ = ACode.wp P (.seq c31_1 c31_4) Q a σ := id rfl
@[go_sem] theorem c31_6_wp (P : Program) (Q : APost) (a : AFr) (σ : ASt) : c31_6.wp P Q a σ = ACode.wp P (.ops [
    ⟨(some 4), none, .q (.mv (.v (.int .u8 0))), []⟩]) Q a σ := id rfl
@[go_sem] theorem c31_7_wp (P : Program) (Q : APost) (a : AFr) (σ : ASt) : c31_7.wp P Q a σ = ACode.wp P (.seq c31_6 .ret) Q a σ := id rfl
@[go_sem] theorem c31_8_wp (P : Program) (Q : APost) (a : AFr) (σ : ASt) : c31_8.wp P Q a σ = ACode.wp P (.seq c31_5 c31_7) Q a σ := id rfl
@[go_sem] theorem c31_9_wp (P : Program) (Q : APost) (a : AFr) (σ : ASt) : c31_9.wp P Q a σ = ACode.wp P (.seq c31_0 c31_8) Q a σ := id rfl
def c31 : AFn := ⟨12, [.t 4], c31_9⟩
set_option maxRecDepth 100000 in
theorem c31_ok : compF Try.prog Try.f31 = some c31 := by kernel_rfl
theorem a31 {args : List AV} {σ : ASt} {R : AV → ASt → Prop} (hl : args.length ≤ 12) (h : c31_9.wp Try.prog (RetQ [.t 4] R) (init args) σ) : ACalls Try.prog 31 args σ R := acalls_of Try.func31 c31_ok hl h

/-! 32: tabular/addr.Parse -/
def c32_0 : ACode := .ops [
    ⟨(some 2), none, .e (.alloc [(.int .i64 0), (.int .i64 0), (.bool false), (.bool false)]), []⟩,
    ⟨(some 3), none, .q (.mv (.v (.bool false))), []⟩]
def c32_1 : ACode := .ops [
    ⟨(some 7), none, .q (.mv (.t 0)), []⟩,
    ⟨(some 8), none, .e (.call 28 [(.t 7)]), []⟩,
    ⟨(some 6), none, .q (.mv (.t 8)), []⟩,
    ⟨(some 9), none, .q (.ext 0 (.t 6)), []⟩,
    ⟨(some 10), none, .q (.ext 1 (.t 6)), []⟩,
    ⟨(some 4), none, .e (.alloc [(.int .i64 0), (.int .i64 0), (.bool false), (.bool false)]), []⟩,
    ⟨none, none, .e (.store 4 (.t 4) (.t 9)), []⟩,
    ⟨(some 5), none, .q (.mv (.t 10)), []⟩]
def c32_2 : ACode := .ops [
    ⟨(some 11), none, .q (.mv (.t 5)), []⟩,
    ⟨(some 12), none, .q (.bin .eql (.t 11) (.v (.int .i64 0))), []⟩,
    ⟨(some 13), none, .q (.mv (.t 12)), []⟩,
    ⟨(some 14), (some (13, false)), .q (.mv (.t 5)), []⟩,
    ⟨(some 15), (some (13, false)), .q (.mv (.t 0)), []⟩,
    ⟨(some 16), (some (13, false)), .q (.lenS (.t 15)), []⟩,
    ⟨(some 17), (some (13, false)), .q (.bin .lss (.t 14) (.t 16)), []⟩,
    ⟨(some 18), none, .q (.pick (.t 13) (.v (.bool true)) (.t 17)), []⟩]
def c32_3 : ACode := .ops [
    ⟨(some 19), none, .q (.build [(.int .i64 0), (.int .i64 0), (.bool false), (.bool false)] []), []⟩,
    ⟨none, none, .e (.store 4 (.t 2) (.t 19)), []⟩,
    ⟨(some 3), none, .q (.mv (.v (.bool false))), []⟩]
def c32_4 : ACode := .seq c32_3 .ret
def c32_5 : ACode := .cond (.t 18) c32_4 .skip
def c32_6 : ACode := .seq c32_2 c32_5
def c32_7 : ACode := .ops [
    ⟨(some 20), none, .q (.ld (some 4) (.t 4)), []⟩,
    ⟨none, none, .e (.store 4 (.t 2) (.t 20)), []⟩,
    ⟨(some 3), none, .q (.mv (.v (.bool true))), []⟩]
def c32_8 : ACode := .seq c32_7 .ret
def c32_9 : ACode := .seq c32_6 c32_8
def c32_10 : ACode := .seq c32_1 c32_9
def c32_11 : ACode := .seq c32_0 c32_10
@[go_sem] theorem c32_0_wp (P : Program) (Q : APost) (a : AFr) (σ : ASt) : c32_0.wp P Q a σ = ACode.wp P (.ops [
    ⟨(some 2), none, .e (.alloc [(.int .i64 0), (.int .i64 0), (.bool false), (.bool false)]), []⟩,
    ⟨(some 3), none, .q (.mv (.v (.bool false))), []⟩]) Q a σ := id rfl
@[go_sem] theorem c32_1_wp (P : Program) (Q : APost) (a : AFr) (σ : ASt) : c32_1.wp P Q a σ = ACode.wp P (.ops [
    ⟨(some 7), none, .q (.mv (.t 0)), []⟩,
    ⟨(some 8), none, .e (.call 28 [(.t 7)]), []⟩,
    ⟨(some 6), none, .q (.mv (.t 8)), []⟩,
    ⟨(some 9), none, .q (.ext 0 (.t 6)), []⟩,
    ⟨(some 10), none, .q (.ext 1 (.t 6)), []⟩,
    ⟨(some 4), none, .e (.alloc [(.int .i64 0), (.int .i64 0), (.bool false), (.bool false)]), []⟩,
    ⟨none, none, .e (.store 4 (.t 4) (.t 9)), []⟩,
    ⟨(some 5), none, .q (.mv (.t 10)), []⟩]) Q a σ := id rfl
@[go_sem] theorem c32_2_wp (P : Program) (Q : APost) (a : AFr) (σ : ASt) : c32_2.wp P Q a σ = ACode.wp P (.ops [
    ⟨(some 11), none, .q (.mv (.t 5)), []⟩,
    ⟨(some 12), none, .q (.bin .eql (.t 11) (.v (.int .i64 0))), []⟩,
    ⟨(some 13), none, .q (.mv (.t 12)), []⟩,
    ⟨(some 14), (some (13, false)), .q (.mv (.t 5)), []⟩,
    ⟨(some 15), (some (13, false)), .q (.mv (.t 0)), []⟩,
    ⟨(some 16), (some (13, false)), .q (.lenS (.t 15)), []⟩,
    ⟨(some 17), (some (13, false)), .q (.bin .lss (.t 14) (.t 16)), []⟩,
    ⟨(some 18), none, .q (.pick (.t 13) (.v (.bool true)) (.t 17)), []⟩]) Q a σ := id rfl
@[go_sem] theorem c32_3_wp (P : Program) (Q : APost) (a : AFr) (σ : ASt) : c32_3.wp P Q a σ = ACode.wp P (.ops [
    ⟨(some 19), none, .q (.build [(.int .i64 0), (.int .i64 0), (.bool false), (.bool false)] []), []⟩,
    ⟨none, none, .e (.store 4 (.t 2) (.t 19)), []⟩,
    ⟨(some 3), none, .q (.mv (.v (.bool false))), []⟩]) Q a σ := id rfl
@[go_sem] theorem c32_4_wp (P : Program) (Q : APost) (a : AFr) (σ : ASt) : c32_4.wp P Q a σ = ACode.wp P (.seq c32_3 .ret) Q a σ := id rfl
@[go_sem] theorem c32_5_wp (P : Program) (Q : APost) (a : AFr) (σ : ASt) : c32_5.wp P Q a σ = ACode.wp P (.cond (.t 18) c32_4 .skip) Q a σ := id rfl
@[go_sem] theorem c32_6_wp (P : Program) (Q : APost) (a : AFr) (σ : ASt) : c32_6.wp P Q a σ = ACode.wp P (.seq c32_2 c32_5) Q a σ := id rfl
@[go_sem] theorem c32_7_wp (P : Program) (Q : APost) (a : AFr) (σ : ASt) : c32_7.wp P Q a σ = ACode.wp P (.ops [
    ⟨(some 20), none, .q (.ld (some 4) (.t 4)), []⟩,
    ⟨none, none, .e (.store 4 (.t 2) (.t 20)), []⟩,
    ⟨(some 3), none, .q (.mv (.v (.bool true))), []⟩]) Q a σ := id rfl
@[go_sem] theorem c32_8_wp (P : Program) (Q : APost) (a : AFr) (σ : ASt) : c32_8.wp P Q a σ = ACode.wp P (.seq c32_7 .ret) Q a σ := id rfl
@[go_sem] theorem c32_9_wp (P : Program) (Q : APost) (a : AFr) (σ : ASt) : c32_9.wp P Q a σ = ACode.wp P (.seq c32_6 c32_8) Q a σ := id rfl
@[go_sem] theorem c32_10_wp (P : Program) (Q : APost) (a : AFr) (σ : ASt) : c32_10.wp P Q a σ = ACode.wp P (.seq c32_1 c32_9) Q a σ := id rfl
@[go_sem] theorem c32_11_wp (P : Program) (Q : APost) (a : AFr) (σ : ASt) : c32_11.wp P Q a σ = ACode.wp P (.seq c32_0 c32_10) Q a σ := id rfl
def c32 : AFn := ⟨21, [.c 2 (some 4), .t 3], c32_11⟩
set_option maxRecDepth 100000 in
theorem c32_ok : compF Try.prog Try.f32 = some c32 := by kernel_rfl
theorem a32 {args : List AV} {σ : ASt} {R : AV → ASt → Prop} (hl : args.length ≤ 21) (h : c32_11.wp Try.prog (RetQ [.c 2 (some 4), .t 3] R) (init args) σ) : ACalls Try.prog 32 args σ R := acalls_of Try.func32 c32_ok hl h

end Go.A
