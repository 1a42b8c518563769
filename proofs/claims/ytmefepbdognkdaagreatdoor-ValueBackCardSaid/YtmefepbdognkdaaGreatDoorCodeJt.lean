/- The functions, compiled: by program (wip/gencode.py). -/
import Derived.Test.YtmefepbdognkdaaGreatDoorBk
import Derived.Test.YtmefepbdognkdaaGreatDoorProg
import Derived.KernelRfl
namespace Go.A
open Go.Proofs

/-! 6: tabular/tabularlaw15.ValueBack -/
def c6_0 : ACode := .ops [
    ⟨(some 1), none, .e (.box (.t 0)), []⟩,
    ⟨(some 2), none, .q (.mv (.v (.bool false))), []⟩]
def c6_1 : ACode := .ops [
    ⟨(some 9), none, .q (.fa 2 (.t 1)), []⟩,
    ⟨(some 10), none, .q (.ld none (.t 9)), []⟩,
    ⟨(some 11), none, .e (.call 7 [(.t 10), (.v (.int .i64 1000))]), []⟩,
    ⟨(some 12), none, .q (.fa 2 (.t 1)), []⟩,
    ⟨none, none, .e (.store 1 (.t 12) (.t 11)), []⟩]
def c6_2 : ACode := .ops [
    ⟨(some 14), none, .q (.ld (some 3) (.t 1)), []⟩,
    ⟨(some 15), none, .e (.call 17 [(.t 14)]), []⟩,
    ⟨(some 13), none, .q (.mv (.t 15)), []⟩,
    ⟨(some 16), none, .q (.ext 0 (.t 13)), []⟩,
    ⟨(some 17), none, .q (.ext 1 (.t 13)), []⟩,
    ⟨(some 4), none, .e (.alloc [(.int .i64 0), (.int .i64 0), (.str [])]), []⟩,
    ⟨(some 3), none, .q (.mv (.t 16)), []⟩,
    ⟨none, none, .e (.store 3 (.t 4) (.t 17)), []⟩]
def c6_3 : ACode := .ops [
    ⟨(some 5), none, .e (.alloc [(.sl .full [])]), []⟩]
def c6_4 : ACode := .ops [
    ⟨(some 18), none, .q (.mv (.t 3)), []⟩,
    ⟨(some 19), none, .e (.call 30 [(.t 5), (.t 18)]), []⟩]
def c6_5 : ACode := .ops [
    ⟨(some 20), none, .e (.call 32 [(.t 5)]), []⟩,
    ⟨(some 21), none, .e (.call 31 [(.t 20)]), []⟩,
    ⟨(some 6), none, .q (.mv (.t 21)), []⟩]
def c6_6 : ACode := .ops [
    ⟨(some 23), none, .q (.mv (.t 6)), []⟩,
    ⟨(some 24), none, .e (.call 33 [(.t 23)]), []⟩,
    ⟨(some 22), none, .q (.mv (.t 24)), []⟩,
    ⟨(some 25), none, .q (.ext 0 (.t 22)), []⟩,
    ⟨(some 26), none, .q (.ext 1 (.t 22)), []⟩,
    ⟨(some 7), none, .q (.mv (.t 25)), []⟩,
    ⟨(some 8), none, .q (.mv (.t 26)), []⟩]
def c6_7 : ACode := .ops [
    ⟨(some 27), none, .e (.call 18 []), []⟩,
    ⟨(some 28), none, .q (.mv (.t 27)), []⟩,
    ⟨(some 29), (some (28, true)), .q (.mv (.t 3)), []⟩,
    ⟨(some 33), (some (28, true)), .q (.ld (some 3) (.t 4)), []⟩,
    ⟨(some 30), (some (28, true)), .e (.call 35 [(.t 29)]), [⟨(some (28, true)), .ld (some 3) (.t 4), 33⟩]⟩,
    ⟨(some 31), (some (28, true)), .e (.call 34 [(.t 30)]), [⟨(some (28, true)), .ld (some 3) (.t 4), 33⟩]⟩,
    ⟨(some 32), (some (28, true)), .e (.call 12 [(.t 31)]), [⟨(some (28, true)), .ld (some 3) (.t 4), 33⟩]⟩,
    ⟨(some 34), (some (28, true)), .q (.eqs false [(0, 0), (1, 0), (2, 2)] (.t 32) (.t 33)), []⟩,
    ⟨(some 35), none, .q (.pick (.t 28) (.t 34) (.v (.bool false))), []⟩,
    ⟨(some 36), none, .q (.mv (.t 35)), []⟩,
    ⟨(some 37), (some (36, true)), .q (.mv (.t 8)), []⟩,
    ⟨(some 38), (some (36, true)), .q (.bin .eql (.t 37) (.v (.int .i64 0))), []⟩,
    ⟨(some 39), none, .q (.pick (.t 36) (.t 38) (.v (.bool false))), []⟩,
    ⟨(some 40), none, .q (.mv (.t 39)), []⟩,
    ⟨(some 41), (some (40, true)), .q (.mv (.t 7)), []⟩,
    ⟨(some 43), (some (40, true)), .q (.ld (some 3) (.t 4)), []⟩,
    ⟨(some 42), (some (40, true)), .e (.call 12 [(.t 41)]), [⟨(some (40, true)), .ld (some 3) (.t 4), 43⟩]⟩,
    ⟨(some 44), (some (40, true)), .q (.eqs false [(0, 0), (1, 0), (2, 2)] (.t 42) (.t 43)), []⟩,
    ⟨(some 45), none, .q (.pick (.t 40) (.t 44) (.v (.bool false))), []⟩,
    ⟨(some 46), none, .q (.mv (.t 45)), []⟩,
    ⟨(some 47), (some (46, true)), .q (.mv (.t 6)), []⟩,
    ⟨(some 48), (some (46, true)), .e (.call 36 [(.t 47)]), []⟩,
    ⟨(some 49), (some (46, true)), .q (.bin .eql (.t 48) (.v (.int .i64 0))), []⟩,
    ⟨(some 50), none, .q (.pick (.t 46) (.t 49) (.v (.bool false))), []⟩,
    ⟨(some 2), none, .q (.mv (.t 50)), []⟩]
def c6_8 : ACode := .seq c6_7 .ret
def c6_9 : ACode := .seq c6_6 c6_8
def c6_10 : ACode := .seq c6_5 c6_9
def c6_11 : ACode := .seq c6_4 c6_10
def c6_12 : ACode := .seq c6_3 c6_11
def c6_13 : ACode := .seq c6_2 c6_12
def c6_14 : ACode := .seq c6_1 c6_13
def c6_15 : ACode := .seq c6_0 c6_14
@[go_sem] theorem c6_0_wp : type_of% (wp_of c6_0.eq_1) := wp_of c6_0.eq_1
@[go_sem] theorem c6_1_wp : type_of% (wp_of c6_1.eq_1) := wp_of c6_1.eq_1
@[go_sem] theorem c6_2_wp : type_of% (wp_of c6_2.eq_1) := wp_of c6_2.eq_1
@[go_sem] theorem c6_3_wp : type_of% (wp_of c6_3.eq_1) := wp_of c6_3.eq_1
@[go_sem] theorem c6_4_wp : type_of% (wp_of c6_4.eq_1) := wp_of c6_4.eq_1
@[go_sem] theorem c6_5_wp : type_of% (wp_of c6_5.eq_1) := wp_of c6_5.eq_1
@[go_sem] theorem c6_6_wp : type_of% (wp_of c6_6.eq_1) := wp_of c6_6.eq_1
@[go_sem] theorem c6_7_wp : type_of% (wp_of c6_7.eq_1) := wp_of c6_7.eq_1
@[go_sem] theorem c6_8_wp : type_of% (wp_of c6_8.eq_1) := wp_of c6_8.eq_1
@[go_sem] theorem c6_9_wp : type_of% (wp_of c6_9.eq_1) := wp_of c6_9.eq_1
@[go_sem] theorem c6_10_wp : type_of% (wp_of c6_10.eq_1) := wp_of c6_10.eq_1
@[go_sem] theorem c6_11_wp : type_of% (wp_of c6_11.eq_1) := wp_of c6_11.eq_1
@[go_sem] theorem c6_12_wp : type_of% (wp_of c6_12.eq_1) := wp_of c6_12.eq_1
@[go_sem] theorem c6_13_wp : type_of% (wp_of c6_13.eq_1) := wp_of c6_13.eq_1
@[go_sem] theorem c6_14_wp : type_of% (wp_of c6_14.eq_1) := wp_of c6_14.eq_1
@[go_sem] theorem c6_15_wp : type_of% (wp_of c6_15.eq_1) := wp_of c6_15.eq_1
def c6 : AFn := ⟨51, [.t 2], c6_15⟩
set_option maxRecDepth 100000 in
theorem c6_ok : compF Tryz.prog Tryz.f6 = some c6 := by kernel_rfl
theorem a6 {args : List AV} {σ : ASt} {R : AV → ASt → Prop} (hl : args.length ≤ 51) (h : c6_15.wp Tryz.prog (RetQ [.t 2] R) (init args) σ) : ACalls Tryz.prog 6 args σ R := acalls_of Tryz.func6 c6_ok hl h

end Go.A
