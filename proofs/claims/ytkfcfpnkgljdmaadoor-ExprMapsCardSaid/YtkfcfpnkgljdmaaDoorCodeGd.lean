/- The functions, compiled: by program (wip/gencode.py). -/
import Derived.Test.YtkfcfpnkgljdmaaDoorBk
import Derived.Test.YtkfcfpnkgljdmaaDoorProg
import Derived.KernelRfl
namespace Go.A
open Go.Proofs

/-! 36: (tabular/addr.Area).Rect -/
def c36_0 : ACode := .ops [
    ⟨(some 1), none, .e (.box (.t 0)), []⟩,
    ⟨(some 2), none, .e (.alloc [(.int .i64 0), (.int .i64 0), (.int .i64 0), (.int .i64 0)]), []⟩]
def c36_1 : ACode := .ops [
    ⟨(some 3), none, .q (.ld (some 8) (.t 1)), []⟩,
    ⟨(some 4), none, .e (.call 49 [(.t 3)]), []⟩,
    ⟨none, none, .e (.store 8 (.t 1) (.t 4)), []⟩]
def c36_2 : ACode := .ops [
    ⟨(some 5), none, .q (.fa 0 (.t 1)), []⟩,
    ⟨(some 6), none, .q (.fa 0 (.t 5)), []⟩,
    ⟨(some 7), none, .q (.ld none (.t 6)), []⟩,
    ⟨(some 8), none, .q (.fa 0 (.t 1)), []⟩,
    ⟨(some 9), none, .q (.fa 1 (.t 8)), []⟩,
    ⟨(some 10), none, .q (.ld none (.t 9)), []⟩,
    ⟨(some 11), none, .q (.fa 4 (.t 1)), []⟩,
    ⟨(some 12), none, .q (.fa 0 (.t 11)), []⟩,
    ⟨(some 13), none, .q (.ld none (.t 12)), []⟩,
    ⟨(some 14), none, .q (.fa 0 (.t 1)), []⟩,
    ⟨(some 15), none, .q (.fa 0 (.t 14)), []⟩,
    ⟨(some 16), none, .q (.ld none (.t 15)), []⟩,
    ⟨(some 17), none, .q (.bin .sub (.t 13) (.t 16)), []⟩,
    ⟨(some 18), none, .q (.bin .add (.t 17) (.v (.int .i64 1))), []⟩,
    ⟨(some 19), none, .q (.fa 4 (.t 1)), []⟩,
    ⟨(some 20), none, .q (.fa 1 (.t 19)), []⟩,
    ⟨(some 21), none, .q (.ld none (.t 20)), []⟩,
    ⟨(some 22), none, .q (.fa 0 (.t 1)), []⟩,
    ⟨(some 23), none, .q (.fa 1 (.t 22)), []⟩,
    ⟨(some 24), none, .q (.ld none (.t 23)), []⟩,
    ⟨(some 25), none, .q (.bin .sub (.t 21) (.t 24)), []⟩,
    ⟨(some 26), none, .q (.bin .add (.t 25) (.v (.int .i64 1))), []⟩,
    ⟨(some 27), none, .q (.build [(.int .i64 0), (.int .i64 0), (.int .i64 0), (.int .i64 0)] [(0, 1, (.t 7)), (1, 1, (.t 10)), (2, 1, (.t 18)), (3, 1, (.t 26))]), []⟩,
    ⟨none, none, .e (.store 4 (.t 2) (.t 27)), []⟩]
def c36_3 : ACode := .seq c36_2 .ret
def c36_4 : ACode := .seq c36_1 c36_3
def c36_5 : ACode := .seq c36_0 c36_4
@[go_sem] theorem c36_0_wp : type_of% (wp_of c36_0.eq_1) := wp_of c36_0.eq_1
@[go_sem] theorem c36_1_wp : type_of% (wp_of c36_1.eq_1) := wp_of c36_1.eq_1
@[go_sem] theorem c36_2_wp : type_of% (wp_of c36_2.eq_1) := wp_of c36_2.eq_1
@[go_sem] theorem c36_3_wp : type_of% (wp_of c36_3.eq_1) := wp_of c36_3.eq_1
@[go_sem] theorem c36_4_wp : type_of% (wp_of c36_4.eq_1) := wp_of c36_4.eq_1
@[go_sem] theorem c36_5_wp : type_of% (wp_of c36_5.eq_1) := wp_of c36_5.eq_1
def c36 : AFn := ⟨28, [.c 2 (some 4)], c36_5⟩
set_option maxRecDepth 100000 in
theorem c36_ok : compF Tryd.prog Tryd.f36 = some c36 := by kernel_rfl
theorem a36 {args : List AV} {σ : ASt} {R : AV → ASt → Prop} (hl : args.length ≤ 28) (h : c36_5.wp Tryd.prog (RetQ [.c 2 (some 4)] R) (init args) σ) : ACalls Tryd.prog 36 args σ R := acalls_of Tryd.func36 c36_ok hl h

/-! 49: (tabular/addr.Area).Norm -/
def c49_0 : ACode := .ops [
    ⟨(some 1), none, .e (.box (.t 0)), []⟩,
    ⟨(some 2), none, .e (.alloc [(.int .i64 0), (.int .i64 0), (.bool false), (.bool false), (.int .i64 0), (.int .i64 0), (.bool false), (.bool false)]), []⟩]
def c49_1 : ACode := .ops [
    ⟨(some 3), none, .q (.fa 0 (.t 1)), []⟩,
    ⟨(some 4), none, .q (.fa 0 (.t 3)), []⟩,
    ⟨(some 5), none, .q (.ld none (.t 4)), []⟩,
    ⟨(some 6), none, .q (.fa 4 (.t 1)), []⟩,
    ⟨(some 7), none, .q (.fa 0 (.t 6)), []⟩,
    ⟨(some 8), none, .q (.ld none (.t 7)), []⟩,
    ⟨(some 9), none, .q (.bin .gtr (.t 5) (.t 8)), []⟩]
def c49_2 : ACode := .ops [
    ⟨(some 10), none, .q (.fa 4 (.t 1)), []⟩,
    ⟨(some 11), none, .q (.fa 0 (.t 10)), []⟩,
    ⟨(some 12), none, .q (.ld none (.t 11)), []⟩,
    ⟨(some 13), none, .q (.fa 0 (.t 1)), []⟩,
    ⟨(some 14), none, .q (.fa 0 (.t 13)), []⟩,
    ⟨(some 15), none, .q (.ld none (.t 14)), []⟩,
    ⟨(some 16), none, .q (.fa 0 (.t 1)), []⟩,
    ⟨(some 17), none, .q (.fa 0 (.t 16)), []⟩,
    ⟨none, none, .e (.store 1 (.t 17) (.t 12)), []⟩,
    ⟨(some 18), none, .q (.fa 4 (.t 1)), []⟩,
    ⟨(some 19), none, .q (.fa 0 (.t 18)), []⟩,
    ⟨none, none, .e (.store 1 (.t 19) (.t 15)), []⟩]
def c49_3 : ACode := .ops [
    ⟨(some 20), none, .q (.fa 4 (.t 1)), []⟩,
    ⟨(some 21), none, .q (.fa 2 (.t 20)), []⟩,
    ⟨(some 22), none, .q (.ld none (.t 21)), []⟩,
    ⟨(some 23), none, .q (.fa 0 (.t 1)), []⟩,
    ⟨(some 24), none, .q (.fa 2 (.t 23)), []⟩,
    ⟨(some 25), none, .q (.ld none (.t 24)), []⟩,
    ⟨(some 26), none, .q (.fa 0 (.t 1)), []⟩,
    ⟨(some 27), none, .q (.fa 2 (.t 26)), []⟩,
    ⟨none, none, .e (.store 1 (.t 27) (.t 22)), []⟩,
    ⟨(some 28), none, .q (.fa 4 (.t 1)), []⟩,
    ⟨(some 29), none, .q (.fa 2 (.t 28)), []⟩,
    ⟨none, none, .e (.store 1 (.t 29) (.t 25)), []⟩]
def c49_4 : ACode := .seq c49_2 c49_3
def c49_5 : ACode := .cond (.t 9) c49_4 .skip
def c49_6 : ACode := .seq c49_1 c49_5
def c49_7 : ACode := .ops [
    ⟨(some 30), none, .q (.fa 0 (.t 1)), []⟩,
    ⟨(some 31), none, .q (.fa 1 (.t 30)), []⟩,
    ⟨(some 32), none, .q (.ld none (.t 31)), []⟩,
    ⟨(some 33), none, .q (.fa 4 (.t 1)), []⟩,
    ⟨(some 34), none, .q (.fa 1 (.t 33)), []⟩,
    ⟨(some 35), none, .q (.ld none (.t 34)), []⟩,
    ⟨(some 36), none, .q (.bin .gtr (.t 32) (.t 35)), []⟩]
def c49_8 : ACode := .ops [
    ⟨(some 37), none, .q (.fa 4 (.t 1)), []⟩,
    ⟨(some 38), none, .q (.fa 1 (.t 37)), []⟩,
    ⟨(some 39), none, .q (.ld none (.t 38)), []⟩,
    ⟨(some 40), none, .q (.fa 0 (.t 1)), []⟩,
    ⟨(some 41), none, .q (.fa 1 (.t 40)), []⟩,
    ⟨(some 42), none, .q (.ld none (.t 41)), []⟩,
    ⟨(some 43), none, .q (.fa 0 (.t 1)), []⟩,
    ⟨(some 44), none, .q (.fa 1 (.t 43)), []⟩,
    ⟨none, none, .e (.store 1 (.t 44) (.t 39)), []⟩,
    ⟨(some 45), none, .q (.fa 4 (.t 1)), []⟩,
    ⟨(some 46), none, .q (.fa 1 (.t 45)), []⟩,
    ⟨none, none, .e (.store 1 (.t 46) (.t 42)), []⟩]
def c49_9 : ACode := .ops [
    ⟨(some 47), none, .q (.fa 4 (.t 1)), []⟩,
    ⟨(some 48), none, .q (.fa 3 (.t 47)), []⟩,
    ⟨(some 49), none, .q (.ld none (.t 48)), []⟩,
    ⟨(some 50), none, .q (.fa 0 (.t 1)), []⟩,
    ⟨(some 51), none, .q (.fa 3 (.t 50)), []⟩,
    ⟨(some 52), none, .q (.ld none (.t 51)), []⟩,
    ⟨(some 53), none, .q (.fa 0 (.t 1)), []⟩,
    ⟨(some 54), none, .q (.fa 3 (.t 53)), []⟩,
    ⟨none, none, .e (.store 1 (.t 54) (.t 49)), []⟩,
    ⟨(some 55), none, .q (.fa 4 (.t 1)), []⟩,
    ⟨(some 56), none, .q (.fa 3 (.t 55)), []⟩,
    ⟨none, none, .e (.store 1 (.t 56) (.t 52)), []⟩]
def c49_10 : ACode := .seq c49_8 c49_9
def c49_11 : ACode := .cond (.t 36) c49_10 .skip
def c49_12 : ACode := .seq c49_7 c49_11
def c49_13 : ACode := .ops [
    ⟨(some 57), none, .q (.ld (some 8) (.t 1)), []⟩,
    ⟨none, none, .e (.store 8 (.t 2) (.t 57)), []⟩]
def c49_14 : ACode := .seq c49_13 .ret
def c49_15 : ACode := .seq c49_12 c49_14
def c49_16 : ACode := .seq c49_6 c49_15
def c49_17 : ACode := .seq c49_0 c49_16
@[go_sem] theorem c49_0_wp : type_of% (wp_of c49_0.eq_1) := wp_of c49_0.eq_1
@[go_sem] theorem c49_1_wp : type_of% (wp_of c49_1.eq_1) := wp_of c49_1.eq_1
@[go_sem] theorem c49_2_wp : type_of% (wp_of c49_2.eq_1) := wp_of c49_2.eq_1
@[go_sem] theorem c49_3_wp : type_of% (wp_of c49_3.eq_1) := wp_of c49_3.eq_1
@[go_sem] theorem c49_4_wp : type_of% (wp_of c49_4.eq_1) := wp_of c49_4.eq_1
@[go_sem] theorem c49_5_wp : type_of% (wp_of c49_5.eq_1) := wp_of c49_5.eq_1
@[go_sem] theorem c49_6_wp : type_of% (wp_of c49_6.eq_1) := wp_of c49_6.eq_1
@[go_sem] theorem c49_7_wp : type_of% (wp_of c49_7.eq_1) := wp_of c49_7.eq_1
@[go_sem] theorem c49_8_wp : type_of% (wp_of c49_8.eq_1) := wp_of c49_8.eq_1
@[go_sem] theorem c49_9_wp : type_of% (wp_of c49_9.eq_1) := wp_of c49_9.eq_1
@[go_sem] theorem c49_10_wp : type_of% (wp_of c49_10.eq_1) := wp_of c49_10.eq_1
@[go_sem] theorem c49_11_wp : type_of% (wp_of c49_11.eq_1) := wp_of c49_11.eq_1
@[go_sem] theorem c49_12_wp : type_of% (wp_of c49_12.eq_1) := wp_of c49_12.eq_1
@[go_sem] theorem c49_13_wp : type_of% (wp_of c49_13.eq_1) := wp_of c49_13.eq_1
@[go_sem] theorem c49_14_wp : type_of% (wp_of c49_14.eq_1) := wp_of c49_14.eq_1
@[go_sem] theorem c49_15_wp : type_of% (wp_of c49_15.eq_1) := wp_of c49_15.eq_1
@[go_sem] theorem c49_16_wp : type_of% (wp_of c49_16.eq_1) := wp_of c49_16.eq_1
@[go_sem] theorem c49_17_wp : type_of% (wp_of c49_17.eq_1) := wp_of c49_17.eq_1
def c49 : AFn := ⟨58, [.c 2 (some 8)], c49_17⟩
set_option maxRecDepth 100000 in
theorem c49_ok : compF Tryd.prog Tryd.f49 = some c49 := by kernel_rfl
theorem a49 {args : List AV} {σ : ASt} {R : AV → ASt → Prop} (hl : args.length ≤ 58) (h : c49_17.wp Tryd.prog (RetQ [.c 2 (some 8)] R) (init args) σ) : ACalls Tryd.prog 49 args σ R := acalls_of Tryd.func49 c49_ok hl h

end Go.A
