/- The functions, compiled: by program (wip/gencode.py). -/
import Derived.Test.YtkfcfpnkgljdmaaDoorBk
import Derived.Test.YtkfcfpnkgljdmaaDoorProg
import Derived.KernelRfl
namespace Go.A
open Go.Proofs

/-! 8: tabular/expr.Depth -/
def c8_0 : ACode := .ops [
    ⟨(some 1), none, .e (.box (.t 0)), []⟩,
    ⟨(some 2), none, .q (.mv (.v (.int .i64 0))), []⟩]
def c8_1 : ACode := .ops [
    ⟨(some 3), none, .q (.mv (.v (.int .i64 0))), []⟩]
def c8_2 : ACode := .ops [
    ⟨(some 6), none, .q (.fa 11 (.t 1)), []⟩,
    ⟨(some 7), none, .q (.ld none (.t 6)), []⟩,
    ⟨(some 8), none, .q (.len (.t 7)), []⟩,
    ⟨(some 9), none, .q (.mv (.v (.int .i64 0))), []⟩]
def c8_3 : ACode := .ops [
    ⟨(some 10), none, .q (.bin .lss (.t 9) (.t 8)), []⟩]
def c8_4 : ACode := .cond (.t 10) .skip (.exit 0)
def c8_5 : ACode := .ops [
    ⟨(some 11), none, .q (.ia 12 (.t 7) (.t 9)), []⟩,
    ⟨(some 12), none, .q (.ld (some 12) (.t 11)), []⟩,
    ⟨(some 5), none, .e (.alloc [(.int .i64 0), (.int .i64 0), (.str []), (.int .i64 0), (.int .i64 0), (.bool false), (.bool false), (.int .i64 0), (.int .i64 0), (.bool false), (.bool false), (.sl .full [])]), []⟩,
    ⟨none, none, .e (.store 12 (.t 5) (.t 12)), []⟩]
def c8_6 : ACode := .ops [
    ⟨(some 13), none, .q (.mv (.t 3)), []⟩,
    ⟨(some 14), none, .q (.ld (some 12) (.t 5)), []⟩,
    ⟨(some 15), none, .e (.call 8 [(.t 14)]), []⟩,
    ⟨(some 16), none, .q (.mnx true (.t 13) (.t 15)), []⟩,
    ⟨(some 3), none, .q (.mv (.t 16)), []⟩]
def c8_7 : ACode := .seq c8_5 c8_6
def c8_8 : ACode := .block 1 c8_7
def c8_9 : ACode := .ops [
    ⟨(some 17), none, .q (.bin .add (.t 9) (.v (.int .i64 1))), []⟩,
    ⟨(some 9), none, .q (.mv (.t 17)), []⟩]
def c8_10 : ACode := .seq c8_8 c8_9
def c8_11 : ACode := .seq c8_4 c8_10
def c8_12 : ACode := .seq c8_3 c8_11
def c8_13 : ACode := .loop c8_12
def c8_14 : ACode := .block 0 c8_13
def c8_15 : ACode := .seq c8_2 c8_14
def c8_16 : ACode := .ops [
    ⟨(some 18), none, .q (.mv (.t 3)), []⟩,
    ⟨(some 19), none, .q (.bin .add (.t 18) (.v (.int .i64 1))), []⟩,
    ⟨(some 2), none, .q (.mv (.t 19)), []⟩]
def c8_17 : ACode := .seq c8_16 .ret
def c8_18 : ACode := .seq c8_15 c8_17
def c8_19 : ACode := .seq c8_1 c8_18
def c8_20 : ACode := .seq c8_0 c8_19
@[go_sem] theorem c8_0_wp : type_of% (wp_of c8_0.eq_1) := wp_of c8_0.eq_1
@[go_sem] theorem c8_1_wp : type_of% (wp_of c8_1.eq_1) := wp_of c8_1.eq_1
@[go_sem] theorem c8_2_wp : type_of% (wp_of c8_2.eq_1) := wp_of c8_2.eq_1
@[go_sem] theorem c8_3_wp : type_of% (wp_of c8_3.eq_1) := wp_of c8_3.eq_1
@[go_sem] theorem c8_4_wp : type_of% (wp_of c8_4.eq_1) := wp_of c8_4.eq_1
@[go_sem] theorem c8_5_wp : type_of% (wp_of c8_5.eq_1) := wp_of c8_5.eq_1
@[go_sem] theorem c8_6_wp : type_of% (wp_of c8_6.eq_1) := wp_of c8_6.eq_1
@[go_sem] theorem c8_7_wp : type_of% (wp_of c8_7.eq_1) := wp_of c8_7.eq_1
@[go_sem] theorem c8_8_wp : type_of% (wp_of c8_8.eq_1) := wp_of c8_8.eq_1
@[go_sem] theorem c8_9_wp : type_of% (wp_of c8_9.eq_1) := wp_of c8_9.eq_1
@[go_sem] theorem c8_10_wp : type_of% (wp_of c8_10.eq_1) := wp_of c8_10.eq_1
@[go_sem] theorem c8_11_wp : type_of% (wp_of c8_11.eq_1) := wp_of c8_11.eq_1
@[go_sem] theorem c8_12_wp : type_of% (wp_of c8_12.eq_1) := wp_of c8_12.eq_1
@[go_sem] theorem c8_13_wp : type_of% (wp_of c8_13.eq_1) := wp_of c8_13.eq_1
@[go_sem] theorem c8_14_wp : type_of% (wp_of c8_14.eq_1) := wp_of c8_14.eq_1
@[go_sem] theorem c8_15_wp : type_of% (wp_of c8_15.eq_1) := wp_of c8_15.eq_1
@[go_sem] theorem c8_16_wp : type_of% (wp_of c8_16.eq_1) := wp_of c8_16.eq_1
@[go_sem] theorem c8_17_wp : type_of% (wp_of c8_17.eq_1) := wp_of c8_17.eq_1
@[go_sem] theorem c8_18_wp : type_of% (wp_of c8_18.eq_1) := wp_of c8_18.eq_1
@[go_sem] theorem c8_19_wp : type_of% (wp_of c8_19.eq_1) := wp_of c8_19.eq_1
@[go_sem] theorem c8_20_wp : type_of% (wp_of c8_20.eq_1) := wp_of c8_20.eq_1
def c8 : AFn := ⟨20, [.t 2], c8_20⟩
set_option maxRecDepth 100000 in
theorem c8_ok : compF Tryd.prog Tryd.f8 = some c8 := by kernel_rfl
theorem a8 {args : List AV} {σ : ASt} {R : AV → ASt → Prop} (hl : args.length ≤ 20) (h : c8_20.wp Tryd.prog (RetQ [.t 2] R) (init args) σ) : ACalls Tryd.prog 8 args σ R := acalls_of Tryd.func8 c8_ok hl h

/-! 17: tabular/expr.Size -/
def c17_0 : ACode := .ops [
    ⟨(some 1), none, .e (.box (.t 0)), []⟩,
    ⟨(some 2), none, .q (.mv (.v (.int .i64 0))), []⟩]
def c17_1 : ACode := .ops [
    ⟨(some 3), none, .q (.mv (.v (.int .i64 1))), []⟩]
def c17_2 : ACode := .ops [
    ⟨(some 6), none, .q (.fa 11 (.t 1)), []⟩,
    ⟨(some 7), none, .q (.ld none (.t 6)), []⟩,
    ⟨(some 8), none, .q (.len (.t 7)), []⟩,
    ⟨(some 9), none, .q (.mv (.v (.int .i64 0))), []⟩]
def c17_3 : ACode := .ops [
    ⟨(some 10), none, .q (.bin .lss (.t 9) (.t 8)), []⟩]
def c17_4 : ACode := .cond (.t 10) .skip (.exit 0)
def c17_5 : ACode := .ops [
    ⟨(some 11), none, .q (.ia 12 (.t 7) (.t 9)), []⟩,
    ⟨(some 12), none, .q (.ld (some 12) (.t 11)), []⟩,
    ⟨(some 5), none, .e (.alloc [(.int .i64 0), (.int .i64 0), (.str []), (.int .i64 0), (.int .i64 0), (.bool false), (.bool false), (.int .i64 0), (.int .i64 0), (.bool false), (.bool false), (.sl .full [])]), []⟩,
    ⟨none, none, .e (.store 12 (.t 5) (.t 12)), []⟩]
def c17_6 : ACode := .ops [
    ⟨(some 13), none, .q (.mv (.t 3)), []⟩,
    ⟨(some 14), none, .q (.ld (some 12) (.t 5)), []⟩,
    ⟨(some 15), none, .e (.call 17 [(.t 14)]), []⟩,
    ⟨(some 16), none, .q (.bin .add (.t 13) (.t 15)), []⟩,
    ⟨(some 3), none, .q (.mv (.t 16)), []⟩]
def c17_7 : ACode := .seq c17_5 c17_6
def c17_8 : ACode := .block 1 c17_7
def c17_9 : ACode := .ops [
    ⟨(some 17), none, .q (.bin .add (.t 9) (.v (.int .i64 1))), []⟩,
    ⟨(some 9), none, .q (.mv (.t 17)), []⟩]
def c17_10 : ACode := .seq c17_8 c17_9
def c17_11 : ACode := .seq c17_4 c17_10
def c17_12 : ACode := .seq c17_3 c17_11
def c17_13 : ACode := .loop c17_12
def c17_14 : ACode := .block 0 c17_13
def c17_15 : ACode := .seq c17_2 c17_14
def c17_16 : ACode := .ops [
    ⟨(some 18), none, .q (.mv (.t 3)), []⟩,
    ⟨(some 2), none, .q (.mv (.t 18)), []⟩]
def c17_17 : ACode := .seq c17_16 .ret
def c17_18 : ACode := .seq c17_15 c17_17
def c17_19 : ACode := .seq c17_1 c17_18
def c17_20 : ACode := .seq c17_0 c17_19
@[go_sem] theorem c17_0_wp : type_of% (wp_of c17_0.eq_1) := wp_of c17_0.eq_1
@[go_sem] theorem c17_1_wp : type_of% (wp_of c17_1.eq_1) := wp_of c17_1.eq_1
@[go_sem] theorem c17_2_wp : type_of% (wp_of c17_2.eq_1) := wp_of c17_2.eq_1
@[go_sem] theorem c17_3_wp : type_of% (wp_of c17_3.eq_1) := wp_of c17_3.eq_1
@[go_sem] theorem c17_4_wp : type_of% (wp_of c17_4.eq_1) := wp_of c17_4.eq_1
@[go_sem] theorem c17_5_wp : type_of% (wp_of c17_5.eq_1) := wp_of c17_5.eq_1
@[go_sem] theorem c17_6_wp : type_of% (wp_of c17_6.eq_1) := wp_of c17_6.eq_1
@[go_sem] theorem c17_7_wp : type_of% (wp_of c17_7.eq_1) := wp_of c17_7.eq_1
@[go_sem] theorem c17_8_wp : type_of% (wp_of c17_8.eq_1) := wp_of c17_8.eq_1
@[go_sem] theorem c17_9_wp : type_of% (wp_of c17_9.eq_1) := wp_of c17_9.eq_1
@[go_sem] theorem c17_10_wp : type_of% (wp_of c17_10.eq_1) := wp_of c17_10.eq_1
@[go_sem] theorem c17_11_wp : type_of% (wp_of c17_11.eq_1) := wp_of c17_11.eq_1
@[go_sem] theorem c17_12_wp : type_of% (wp_of c17_12.eq_1) := wp_of c17_12.eq_1
@[go_sem] theorem c17_13_wp : type_of% (wp_of c17_13.eq_1) := wp_of c17_13.eq_1
@[go_sem] theorem c17_14_wp : type_of% (wp_of c17_14.eq_1) := wp_of c17_14.eq_1
@[go_sem] theorem c17_15_wp : type_of% (wp_of c17_15.eq_1) := wp_of c17_15.eq_1
@[go_sem] theorem c17_16_wp : type_of% (wp_of c17_16.eq_1) := wp_of c17_16.eq_1
@[go_sem] theorem c17_17_wp : type_of% (wp_of c17_17.eq_1) := wp_of c17_17.eq_1
@[go_sem] theorem c17_18_wp : type_of% (wp_of c17_18.eq_1) := wp_of c17_18.eq_1
@[go_sem] theorem c17_19_wp : type_of% (wp_of c17_19.eq_1) := wp_of c17_19.eq_1
@[go_sem] theorem c17_20_wp : type_of% (wp_of c17_20.eq_1) := wp_of c17_20.eq_1
def c17 : AFn := ⟨19, [.t 2], c17_20⟩
set_option maxRecDepth 100000 in
theorem c17_ok : compF Tryd.prog Tryd.f17 = some c17 := by kernel_rfl
theorem a17 {args : List AV} {σ : ASt} {R : AV → ASt → Prop} (hl : args.length ≤ 19) (h : c17_20.wp Tryd.prog (RetQ [.t 2] R) (init args) σ) : ACalls Tryd.prog 17 args σ R := acalls_of Tryd.func17 c17_ok hl h

/-! 27: tabular/expr.Failure -/
def c27_0 : ACode := .ops [
    ⟨(some 1), none, .e (.box (.t 0)), []⟩,
    ⟨(some 2), none, .q (.mv (.v (.str []))), []⟩]
def c27_1 : ACode := .ops [
    ⟨(some 4), none, .q (.fa 1 (.t 1)), []⟩,
    ⟨(some 5), none, .q (.ld none (.t 4)), []⟩,
    ⟨(some 6), none, .e (.call 43 [(.t 5)]), []⟩,
    ⟨(some 3), none, .q (.mv (.t 6)), []⟩]
def c27_2 : ACode := .ops [
    ⟨(some 7), none, .q (.fa 0 (.t 1)), []⟩,
    ⟨(some 8), none, .q (.ld none (.t 7)), []⟩,
    ⟨(some 9), none, .q (.bin .neq (.t 8) (.v (.int .i64 4))), []⟩,
    ⟨(some 10), none, .q (.mv (.t 9)), []⟩,
    ⟨(some 11), (some (10, false)), .q (.mv (.t 3)), []⟩,
    ⟨(some 12), (some (10, false)), .q (.bin .lss (.t 11) (.v (.int .i64 1))), []⟩,
    ⟨(some 13), none, .q (.pick (.t 10) (.v (.bool true)) (.t 12)), []⟩,
    ⟨(some 14), none, .q (.mv (.t 13)), []⟩,
    ⟨(some 15), (some (14, false)), .q (.mv (.t 3)), []⟩,
    ⟨(some 16), (some (14, false)), .e (.call 44 []), []⟩,
    ⟨(some 17), (some (14, false)), .q (.len (.t 16)), []⟩,
    ⟨(some 18), (some (14, false)), .q (.bin .gtr (.t 15) (.t 17)), []⟩,
    ⟨(some 19), none, .q (.pick (.t 14) (.v (.bool true)) (.t 18)), []⟩]
def c27_3 : ACode := .ops [
    ⟨(some 2), none, .q (.mv (.v (.str []))), []⟩]
def c27_4 : ACode := .seq c27_3 .ret
def c27_5 : ACode := .cond (.t 19) c27_4 .skip
def c27_6 : ACode := .seq c27_2 c27_5
def c27_7 : ACode := .ops [
    ⟨(some 20), none, .e (.call 44 []), []⟩,
    ⟨(some 21), none, .q (.mv (.t 3)), []⟩,
    ⟨(some 22), none, .q (.bin .sub (.t 21) (.v (.int .i64 1))), []⟩,
    ⟨(some 23), none, .q (.ia 1 (.t 20) (.t 22)), []⟩,
    ⟨(some 24), none, .q (.ld none (.t 23)), []⟩,
    ⟨(some 2), none, .q (.mv (.t 24)), []⟩]
def c27_8 : ACode := .seq c27_7 .ret
def c27_9 : ACode := .seq c27_6 c27_8
def c27_10 : ACode := .seq c27_1 c27_9
def c27_11 : ACode := .seq c27_0 c27_10
@[go_sem] theorem c27_0_wp : type_of% (wp_of c27_0.eq_1) := wp_of c27_0.eq_1
@[go_sem] theorem c27_1_wp : type_of% (wp_of c27_1.eq_1) := wp_of c27_1.eq_1
@[go_sem] theorem c27_2_wp : type_of% (wp_of c27_2.eq_1) := wp_of c27_2.eq_1
@[go_sem] theorem c27_3_wp : type_of% (wp_of c27_3.eq_1) := wp_of c27_3.eq_1
@[go_sem] theorem c27_4_wp : type_of% (wp_of c27_4.eq_1) := wp_of c27_4.eq_1
@[go_sem] theorem c27_5_wp : type_of% (wp_of c27_5.eq_1) := wp_of c27_5.eq_1
@[go_sem] theorem c27_6_wp : type_of% (wp_of c27_6.eq_1) := wp_of c27_6.eq_1
@[go_sem] theorem c27_7_wp : type_of% (wp_of c27_7.eq_1) := wp_of c27_7.eq_1
@[go_sem] theorem c27_8_wp : type_of% (wp_of c27_8.eq_1) := wp_of c27_8.eq_1
@[go_sem] theorem c27_9_wp : type_of% (wp_of c27_9.eq_1) := wp_of c27_9.eq_1
@[go_sem] theorem c27_10_wp : type_of% (wp_of c27_10.eq_1) := wp_of c27_10.eq_1
@[go_sem] theorem c27_11_wp : type_of% (wp_of c27_11.eq_1) := wp_of c27_11.eq_1
def c27 : AFn := ⟨25, [.t 2], c27_11⟩
set_option maxRecDepth 100000 in
theorem c27_ok : compF Tryd.prog Tryd.f27 = some c27 := by kernel_rfl
theorem a27 {args : List AV} {σ : ASt} {R : AV → ASt → Prop} (hl : args.length ≤ 25) (h : c27_11.wp Tryd.prog (RetQ [.t 2] R) (init args) σ) : ACalls Tryd.prog 27 args σ R := acalls_of Tryd.func27 c27_ok hl h

end Go.A
