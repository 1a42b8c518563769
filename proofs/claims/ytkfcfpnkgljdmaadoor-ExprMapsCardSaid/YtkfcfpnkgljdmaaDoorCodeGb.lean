/- The functions, compiled: by program (wip/gencode.py). -/
import Derived.Test.YtkfcfpnkgljdmaaDoorBk
import Derived.Test.YtkfcfpnkgljdmaaDoorProg
import Derived.KernelRfl
namespace Go.A
open Go.Proofs

/-! 46: tabular/addr.Letters -/
def c46_0 : ACode := .ops [
    ⟨(some 2), none, .q (.mv (.v (.str []))), []⟩]
def c46_1 : ACode := .ops [
    ⟨(some 4), none, .q (.mv (.t 0)), []⟩,
    ⟨(some 5), none, .q (.bin .lss (.t 4) (.v (.int .i64 0))), []⟩,
    ⟨(some 6), none, .q (.mv (.t 5)), []⟩,
    ⟨(some 7), (some (6, false)), .q (.mv (.t 0)), []⟩,
    ⟨(some 8), (some (6, false)), .q (.bin .geq (.t 7) (.v (.int .i64 700))), []⟩,
    ⟨(some 9), none, .q (.pick (.t 6) (.v (.bool true)) (.t 8)), []⟩]
def c46_2 : ACode := .ops [
    ⟨(some 2), none, .q (.mv (.v (.str []))), []⟩]
def c46_3 : ACode := .seq c46_2 .ret
def c46_4 : ACode := .cond (.t 9) c46_3 .skip
def c46_5 : ACode := .seq c46_1 c46_4
def c46_6 : ACode := .ops [
    ⟨(some 3), none, .q (.mv (.v (.str []))), []⟩]
def c46_7 : ACode := .ops [
    ⟨(some 10), none, .q (.mv (.t 0)), []⟩,
    ⟨(some 11), none, .q (.bin .add (.t 10) (.v (.int .i64 1))), []⟩,
    ⟨(some 0), none, .q (.mv (.t 11)), []⟩]
def c46_8 : ACode := .ops [
    ⟨(some 12), none, .q (.mv (.t 0)), []⟩,
    ⟨(some 13), none, .q (.bin .gtr (.t 12) (.v (.int .i64 0))), []⟩]
def c46_9 : ACode := .cond (.t 13) .skip (.exit 0)
def c46_10 : ACode := .seq c46_8 c46_9
def c46_11 : ACode := .ops [
    ⟨(some 17), none, .q (.mv (.t 0)), []⟩,
    ⟨(some 18), none, .q (.bin .sub (.t 17) (.v (.int .i64 1))), []⟩,
    ⟨(some 19), none, .q (.bin .rem (.t 18) (.v (.int .i64 26))), []⟩,
    ⟨(some 20), none, .q (.bin .add (.v (.int .i64 65)) (.t 19)), []⟩,
    ⟨(some 21), none, .q (.conv .u8 (.t 20)), []⟩,
    ⟨(some 22), none, .q (.bsl 1 [(.t 21)]), []⟩,
    ⟨(some 23), none, .q (.b2s (.t 22)), []⟩,
    ⟨(some 24), none, .q (.mv (.t 3)), []⟩,
    ⟨(some 25), none, .q (.bin .add (.t 23) (.t 24)), []⟩,
    ⟨(some 3), none, .q (.mv (.t 25)), []⟩]
def c46_12 : ACode := .block 1 c46_11
def c46_13 : ACode := .ops [
    ⟨(some 14), none, .q (.mv (.t 0)), []⟩,
    ⟨(some 15), none, .q (.bin .sub (.t 14) (.v (.int .i64 1))), []⟩,
    ⟨(some 16), none, .q (.bin .quo (.t 15) (.v (.int .i64 26))), []⟩,
    ⟨(some 0), none, .q (.mv (.t 16)), []⟩]
def c46_14 : ACode := .seq c46_12 c46_13
def c46_15 : ACode := .seq c46_10 c46_14
def c46_16 : ACode := .loop c46_15
def c46_17 : ACode := .block 0 c46_16
def c46_18 : ACode := .seq c46_7 c46_17
def c46_19 : ACode := .ops [
    ⟨(some 26), none, .q (.mv (.t 3)), []⟩,
    ⟨(some 2), none, .q (.mv (.t 26)), []⟩]
def c46_20 : ACode := .seq c46_19 .ret
def c46_21 : ACode := .seq c46_18 c46_20
def c46_22 : ACode := .seq c46_6 c46_21
def c46_23 : ACode := .seq c46_5 c46_22
def c46_24 : ACode := .seq c46_0 c46_23
@[go_sem] theorem c46_0_wp : type_of% (wp_of c46_0.eq_1) := wp_of c46_0.eq_1
@[go_sem] theorem c46_1_wp : type_of% (wp_of c46_1.eq_1) := wp_of c46_1.eq_1
@[go_sem] theorem c46_2_wp : type_of% (wp_of c46_2.eq_1) := wp_of c46_2.eq_1
@[go_sem] theorem c46_3_wp : type_of% (wp_of c46_3.eq_1) := wp_of c46_3.eq_1
@[go_sem] theorem c46_4_wp : type_of% (wp_of c46_4.eq_1) := wp_of c46_4.eq_1
@[go_sem] theorem c46_5_wp : type_of% (wp_of c46_5.eq_1) := wp_of c46_5.eq_1
@[go_sem] theorem c46_6_wp : type_of% (wp_of c46_6.eq_1) := wp_of c46_6.eq_1
@[go_sem] theorem c46_7_wp : type_of% (wp_of c46_7.eq_1) := wp_of c46_7.eq_1
@[go_sem] theorem c46_8_wp : type_of% (wp_of c46_8.eq_1) := wp_of c46_8.eq_1
@[go_sem] theorem c46_9_wp : type_of% (wp_of c46_9.eq_1) := wp_of c46_9.eq_1
@[go_sem] theorem c46_10_wp : type_of% (wp_of c46_10.eq_1) := wp_of c46_10.eq_1
@[go_sem] theorem c46_11_wp : type_of% (wp_of c46_11.eq_1) := wp_of c46_11.eq_1
@[go_sem] theorem c46_12_wp : type_of% (wp_of c46_12.eq_1) := wp_of c46_12.eq_1
@[go_sem] theorem c46_13_wp : type_of% (wp_of c46_13.eq_1) := wp_of c46_13.eq_1
@[go_sem] theorem c46_14_wp : type_of% (wp_of c46_14.eq_1) := wp_of c46_14.eq_1
@[go_sem] theorem c46_15_wp : type_of% (wp_of c46_15.eq_1) := wp_of c46_15.eq_1
@[go_sem] theorem c46_16_wp : type_of% (wp_of c46_16.eq_1) := wp_of c46_16.eq_1
@[go_sem] theorem c46_17_wp : type_of% (wp_of c46_17.eq_1) := wp_of c46_17.eq_1
@[go_sem] theorem c46_18_wp : type_of% (wp_of c46_18.eq_1) := wp_of c46_18.eq_1
@[go_sem] theorem c46_19_wp : type_of% (wp_of c46_19.eq_1) := wp_of c46_19.eq_1
@[go_sem] theorem c46_20_wp : type_of% (wp_of c46_20.eq_1) := wp_of c46_20.eq_1
@[go_sem] theorem c46_21_wp : type_of% (wp_of c46_21.eq_1) := wp_of c46_21.eq_1
@[go_sem] theorem c46_22_wp : type_of% (wp_of c46_22.eq_1) := wp_of c46_22.eq_1
@[go_sem] theorem c46_23_wp : type_of% (wp_of c46_23.eq_1) := wp_of c46_23.eq_1
@[go_sem] theorem c46_24_wp : type_of% (wp_of c46_24.eq_1) := wp_of c46_24.eq_1
def c46 : AFn := ⟨27, [.t 2], c46_24⟩
set_option maxRecDepth 100000 in
theorem c46_ok : compF Tryd.prog Tryd.f46 = some c46 := by kernel_rfl
theorem a46 {args : List AV} {σ : ASt} {R : AV → ASt → Prop} (hl : args.length ≤ 27) (h : c46_24.wp Tryd.prog (RetQ [.t 2] R) (init args) σ) : ACalls Tryd.prog 46 args σ R := acalls_of Tryd.func46 c46_ok hl h

end Go.A
